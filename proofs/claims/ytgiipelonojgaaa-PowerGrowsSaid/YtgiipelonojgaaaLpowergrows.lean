import Derived.Test.YtgiipelonojgaaaW5
import Derived.Test.YtgiipelonojgaaaW4
import Derived.Test.YtgiipelonojgaaaPg
set_option linter.unusedSimpArgs false
set_option linter.unusedVariables false
namespace Go.Proofs.Ytgiipelonojgaaa
open Go.RowKit

theorem u128_pow {k : Nat} (h : k ≤ 127) : U128 (2 ^ k) := by
  have a : (2 : Int) ^ k * 2 ≤ 2 ^ 128 := pow_lt_pow (by omega)
  have e : (2 : Int) ^ 128 = 340282366920938463463374607431768211456 := rfl
  have := p2 k
  unfold U128; omega

set_option maxRecDepth 100000 in
set_option maxHeartbeats 16000000 in
theorem powerGrows_walk (xx nn kk : Int) (w : World) (_ : (Lit.int .i64 xx).wf = true) (_ : (Lit.int .i64 nn).wf = true) (_ : (Lit.int .i64 kk).wf = true) :
    Calls Try.prog 8 #[.int .i64 xx, .int .i64 nn, .int .i64 kk] w fun e w' =>
      e = .returned (.bool true) ∧ Below w.heap.size w w' := by
  have b1 := within_bd xx (n := 1000) (by omega)
  have b2 := within_bd nn (n := 12) (by omega)
  have b3 := within_bd kk (n := 128) (by omega)
  obtain ⟨x, e_x⟩ : ∃ z_, within xx 1000 = z_ := ⟨_, rfl⟩
  rw [e_x] at b1
  have Hx := Lib.hid e_x
  clear e_x
  obtain ⟨N, e_N⟩ : ∃ z_, within nn 12 = z_ := ⟨_, rfl⟩
  rw [e_N] at b2
  have HN := Lib.hid e_N
  clear e_N
  obtain ⟨K, e_K⟩ : ∃ z_, within kk 128 = z_ := ⟨_, rfl⟩
  rw [e_K] at b3
  have HK := Lib.hid e_K
  clear e_K
  obtain ⟨b, hb⟩ : ∃ b, 1 + x = b := ⟨_, rfl⟩
  have bb : 1 ≤ b ∧ b ≤ 1000 := by omega
  obtain ⟨n, rfl⟩ := Int.eq_ofNat_of_zero_le b2.1
  obtain ⟨k, rfl⟩ := Int.eq_ofNat_of_zero_le b3.1
  obtain ⟨p, hp⟩ : ∃ p, b ^ n = p := ⟨_, rfl⟩
  have pn := pow_thousand bb (n := n) (by omega)
  have e11 : (1000 : Int) ^ 11 = 1000000000000000000000000000000000 := rfl
  have up : U128 p := by unfold U128; omega
  have hall : ∀ i : Nat, i ≤ n → U128 (b ^ i) := fun i hi => by
    have := pow_thousand bb (n := i) (by omega)
    unfold U128; omega
  have ub : U128 b := by unfold U128; omega
  have ub6 : U64 b := by unfold U64; omega
  have two : U64 2 := by unfold U64; omega
  have one : U64 1 := by unfold U64; omega
  obtain ⟨i, ei, li, ui⟩ := blen_pos ub (by omega)
  obtain ⟨j, ej, lj, uj⟩ := blen_pos up (by omega)
  have lg := log_pow ⟨li, ui⟩ hp ⟨lj, uj⟩
  have i9 : i < 10 := le_of_pow_lt (Int.lt_of_le_of_lt li (by have : (2 : Int) ^ 10 = 1024 := rfl; omega))
  have j127 : j ≤ 127 := by
    have : j < 128 := le_of_pow_lt (Int.lt_of_le_of_lt lj (by have : (2 : Int) ^ 128 = 340282366920938463463374607431768211456 := rfl; unfold U128 at up; omega))
    omega
  have bn := bernoulli (show 0 ≤ x by omega) n
  rw [hb, hp] at bn
  have nx : 0 ≤ (n : Int) * x ∧ (n : Int) * x ≤ 11 * 999 := ⟨Int.mul_nonneg (by omega) (by omega), Int.mul_le_mul (by omega) (by omega) (by omega) (by omega)⟩
  obtain ⟨s, hs⟩ : ∃ s, 1 + (n : Int) * x = s := ⟨_, rfl⟩
  rw [hs] at bn
  have us : U64 s := by unfold U64; omega
  have uk := u128_pow (show k ≤ 127 by omega)
  have hcmp : ∃ z : Int, 0 ≤ z ∧ ∀ w, Calls Try.prog 23 #[.agg #[.int .u64 (hi p), .int .u64 (lo p)], .agg #[.int .u64 0, .int .u64 s]] w fun e w' => e = .returned (.int .i64 z) ∧ Below w.heap.size w w' := by
    have q := cmpv_spec p s
    exact ⟨cmpv p s, by omega, fun w => cmp_var p s _ (Wd.mk up) (Wd.lit us) q w⟩
  obtain ⟨z, hz, hcmp⟩ := hcmp
  have zd : decide (z < 0) = false := by simpa using hz
  have no : (n : Int) * i ≤ j ∧ (j : Int) ≤ n * (i + 1) := by
    obtain ⟨g1, g2⟩ := lg
    constructor
    · have := Int.ofNat_le.2 g1; simpa using this
    · have := Int.ofNat_le.2 g2; simpa using this
  have nb : 0 ≤ (n : Int) * i ∧ (n : Int) * i ≤ 11 * 9 := ⟨Int.mul_nonneg (by omega) (by omega), Int.mul_le_mul (by omega) (by omega) (by omega) (by omega)⟩
  have nb2 : 0 ≤ (n : Int) * (i + 1) ∧ (n : Int) * (i + 1) ≤ 11 * 10 := ⟨Int.mul_nonneg (by omega) (by omega), Int.mul_le_mul (by omega) (by omega) (by omega) (by omega)⟩
  have f1 : ∀ w, _ := fun w => power_ok 2 127 170141183460469231731687303715884105728 (Wd.lit two) (by omega) (by omega) (by decide) (fun i h => u128_pow h) w
  have e1 : hi 170141183460469231731687303715884105728 = 9223372036854775808 := by decide
  have e2 : lo 170141183460469231731687303715884105728 = 0 := by decide
  rw [e1, e2] at f1
  have f2 : ∀ w, _ := fun w => power_ok b n p (Wd.lit ub6) (by omega) (by omega) hp hall w
  have f3 : ∀ w, _ := fun w => power_ok 2 k (2 ^ k) (Wd.lit two) (by omega) (by omega) rfl (fun i h => u128_pow (by have : i ≤ k := h; omega)) w
  have f4 : ∀ w, _ := fun w => halv_ok (2 ^ k) 1 k (Wd.mk uk) (Wd.lit one) (by omega) (by omega) (by simp) (by have := pow_lt_pow (show k < k + 1 by omega); have := p2 k; simp only [Int.one_mul]; show (2 : Int) ^ k < 2 ^ (k + 1); omega) w
  have f5 : ∀ w, _ := fun w => halv_ok p 1 j (Wd.mk up) (Wd.lit one) (by omega) (by omega) (by simpa using lj) (by simp only [Int.one_mul]; exact uj) w
  have f6 : ∀ w, _ := fun w => halv_ok b 1 i (Wd.lit ub6) (Wd.lit one) (by omega) (by omega) (by simpa using li) (by simp only [Int.one_mul]; exact ui) w
  have N2 := Lib.hid (fun w => num_any 2 w (by omega) (by omega))
  have N1 := Lib.hid (fun w => num_any 1 w (by omega) (by omega))
  have NB := Lib.hid (fun w => num_any b w (by omega) (by omega))
  have NS := Lib.hid (fun w => num_any s w (by omega) (by omega))
  have F1 := Lib.hid f1
  have F2 := Lib.hid f2
  have F3 := Lib.hid f3
  have F4 := Lib.hid f4
  have F5 := Lib.hid f5
  have F6 := Lib.hid f6
  have FC := Lib.hid hcmp
  have w1 : IntKind.i64.wrap ((n : Int) * x) = n * x := IntWalk.i64_in _ (by omega)
  have w2 : IntKind.i64.wrap (1 + (n : Int) * x) = s := by rw [hs]; exact IntWalk.i64_in _ (by omega)
  have w2' : IntKind.i64.wrap s = s := IntWalk.i64_in _ (by omega)
  have w3' : IntKind.i64.wrap b = b := IntWalk.i64_in _ (by omega)
  have w3 : IntKind.i64.wrap (1 + x) = b := by rw [hb]; exact IntWalk.i64_in _ (by omega)
  have w4 : IntKind.i64.wrap ((n : Int) * i) = n * i := IntWalk.i64_in _ (by omega)
  have w5 : IntKind.i64.wrap ((i : Int) + 1) = i + 1 := IntWalk.i64_in _ (by omega)
  have w6 : IntKind.i64.wrap ((n : Int) * (i + 1)) = n * (i + 1) := IntWalk.i64_in _ (by omega)
  have n1 := no.1
  have n2 := no.2
  have qa := alloc_cells
  have qf := alloc_frozens
  clear f1 f2 f3 f4 f5 f6 hcmp nb nb2 no us bn uk lg li ui lj uj ei ej one two ub6 ub hall up e11 pn hp bb e1 e2
  go_enter Try.func8, Try.ntmps8
  go_wp2_with fail
  refine (N2.out _).mono ?_
  rintro e w1 ⟨rfl, hb1⟩
  have z1 := hb1.size
  have c1 := Below.cells hb1
  have f1 := Below.frozens hb1
  try simp only [World.size_alloc, World.size_setCell, World.size_drew] at z1 c1 f1
  go_wp2_with fail
  refine (F1.out _).mono ?_
  rintro e w2 ⟨rfl, hb2⟩
  have z2 := hb2.size
  have c2 := Below.cells hb2
  have f2 := Below.frozens hb2
  try simp only [World.size_alloc, World.size_setCell, World.size_drew] at z2 c2 f2
  go_wp2_with fail
  refine (within_any xx 1000 x _ (by omega) (by omega) Hx.out).mono ?_
  rintro e w' ⟨rfl, rfl⟩
  go_wp2_with fail
  refine (within_any nn 12 n _ (by omega) (by omega) HN.out).mono ?_
  rintro e w' ⟨rfl, rfl⟩
  go_wp2_with fail
  refine (NB.out _).mono ?_
  rintro e w3 ⟨rfl, hb3⟩
  have z3 := hb3.size
  have c3 := Below.cells hb3
  have f3 := Below.frozens hb3
  try simp only [World.size_alloc, World.size_setCell, World.size_drew] at z3 c3 f3
  go_wp2_with fail
  refine (F2.out _).mono ?_
  rintro e w4 ⟨rfl, hb4⟩
  have z4 := hb4.size
  have c4 := Below.cells hb4
  have f4 := Below.frozens hb4
  try simp only [World.size_alloc, World.size_setCell, World.size_drew] at z4 c4 f4
  go_wp2_with fail
  refine wp_region_quiet_all (Ext _) (by kernel_rfl) (by kernel_rfl) (Ext.drawn _) ?_
  repeat (first | go_big_quiet_skip | go_big_quiet_step (fail) | (refine BigFrame.wpQuiet_want rfl (fun K hK => ?_); apply Exists.intro; refine ⟨fun w2 h2 => ?_, ?_⟩; (next => (have g1 := Below.cells h2.below; have g2 := Below.frozens h2.below; (try simp only [World.size_alloc, World.size_setCell] at g1 g2); first | (go_simp; (first | (go_at_call 49; with_reducible refine h2.calls (NS.out _)) | (go_at_call 23; refine h2.calls (FC.out _)))) | (simp [go_sem, ↓IntWalk.iteOmega, *]; done) | (simp [go_sem, ↓IntWalk.iteOmega, *]; rfl)))); (go_simp; refine hK _ ?_; clear hK K))
  refine wpQuiet_nil ?_
  intro w5 h5
  have hb5 := h5.below
  clear h5
  have z5 := hb5.size
  have c5 := Below.cells hb5
  have f5 := Below.frozens hb5
  try simp only [World.size_alloc, World.size_setCell, World.size_drew] at z5 c5 f5
  go_wp2_with fail
  refine (within_any kk 128 k _ (by omega) (by omega) HK.out).mono ?_
  rintro e w' ⟨rfl, rfl⟩
  go_wp2_with fail
  refine (N2.out _).mono ?_
  rintro e w6 ⟨rfl, hb6⟩
  have z6 := hb6.size
  have c6 := Below.cells hb6
  have f6 := Below.frozens hb6
  try simp only [World.size_alloc, World.size_setCell, World.size_drew] at z6 c6 f6
  go_wp2_with fail
  refine (F3.out _).mono ?_
  rintro e w7 ⟨rfl, hb7⟩
  have z7 := hb7.size
  have c7 := Below.cells hb7
  have f7 := Below.frozens hb7
  try simp only [World.size_alloc, World.size_setCell, World.size_drew] at z7 c7 f7
  go_wp2_with fail
  refine wp_region_quiet_all (Ext _) (by kernel_rfl) (by kernel_rfl) (Ext.drawn _) ?_
  repeat (first | go_big_quiet_skip | go_big_quiet_step (fail) | (refine BigFrame.wpQuiet_want rfl (fun K hK => ?_); apply Exists.intro; refine ⟨fun w2 h2 => ?_, ?_⟩; (next => (have g1 := Below.cells h2.below; have g2 := Below.frozens h2.below; (try simp only [World.size_alloc, World.size_setCell] at g1 g2); first | (go_simp; (first | (go_at_call 49; with_reducible refine h2.calls (N1.out _)) | (go_at_call 50; refine h2.calls (F4.out _)))) | (simp [go_sem, ↓IntWalk.iteOmega, *]; done) | (simp [go_sem, ↓IntWalk.iteOmega, *]; rfl)))); (go_simp; refine hK _ ?_; clear hK K))
  refine wpQuiet_nil ?_
  intro w8 h8
  have hb8 := h8.below
  clear h8
  have z8 := hb8.size
  have c8 := Below.cells hb8
  have f8 := Below.frozens hb8
  try simp only [World.size_alloc, World.size_setCell, World.size_drew] at z8 c8 f8
  go_wp2_with fail
  refine wp_region_quiet_all (Ext _) (by kernel_rfl) (by kernel_rfl) (Ext.drawn _) ?_
  repeat (first | go_big_quiet_skip | go_big_quiet_step (fail) | (refine BigFrame.wpQuiet_want rfl (fun K hK => ?_); apply Exists.intro; refine ⟨fun w2 h2 => ?_, ?_⟩; (next => (have g1 := Below.cells h2.below; have g2 := Below.frozens h2.below; (try simp only [World.size_alloc, World.size_setCell] at g1 g2); first | (go_simp; (first | (go_at_call 49; with_reducible refine h2.calls (N1.out _)) | (go_at_call 50; refine h2.calls (F5.out _)))) | (simp [go_sem, ↓IntWalk.iteOmega, *]; done) | (simp [go_sem, ↓IntWalk.iteOmega, *]; rfl)))); (go_simp; refine hK _ ?_; clear hK K))
  refine wpQuiet_nil ?_
  intro w9 h9
  have hb9 := h9.below
  clear h9
  have z9 := hb9.size
  have c9 := Below.cells hb9
  have f9 := Below.frozens hb9
  try simp only [World.size_alloc, World.size_setCell, World.size_drew] at z9 c9 f9
  go_wp2_with fail
  refine (NB.out _).mono ?_
  rintro e w10 ⟨rfl, hb10⟩
  have z10 := hb10.size
  have c10 := Below.cells hb10
  have f10 := Below.frozens hb10
  try simp only [World.size_alloc, World.size_setCell, World.size_drew] at z10 c10 f10
  go_wp2_with fail
  refine (N1.out _).mono ?_
  rintro e w11 ⟨rfl, hb11⟩
  have z11 := hb11.size
  have c11 := Below.cells hb11
  have f11 := Below.frozens hb11
  try simp only [World.size_alloc, World.size_setCell, World.size_drew] at z11 c11 f11
  go_wp2_with fail
  refine (F6.out _).mono ?_
  rintro e w12 ⟨rfl, hb12⟩
  have z12 := hb12.size
  have c12 := Below.cells hb12
  have f12 := Below.frozens hb12
  try simp only [World.size_alloc, World.size_setCell, World.size_drew] at z12 c12 f12
  go_wp2_with fail
  go_ret
  exact ⟨rfl, (by repeat (first | (with_reducible exact Below.refl _ _) | ((with_reducible refine Below.alloc ?_ ?_ _); rotate_left; (next => ((try dsimp only); (try simp only [World.size_alloc, World.size_setCell, World.size_drew]); omega))) | ((with_reducible refine Below.setCell ?_ ?_ _); rotate_left; (next => ((try dsimp only); (try simp only [World.size_alloc, World.size_setCell, World.size_drew]); omega))) | (with_reducible refine Below.drew ?_) | ((with_reducible refine Below.trans ?_ (Below.mono hb12 ?_)); rotate_left; (next => ((try dsimp only); (try simp only [World.size_alloc, World.size_setCell, World.size_drew]); omega))) | ((with_reducible refine Below.trans ?_ (Below.mono hb11 ?_)); rotate_left; (next => ((try dsimp only); (try simp only [World.size_alloc, World.size_setCell, World.size_drew]); omega))) | ((with_reducible refine Below.trans ?_ (Below.mono hb10 ?_)); rotate_left; (next => ((try dsimp only); (try simp only [World.size_alloc, World.size_setCell, World.size_drew]); omega))) | ((with_reducible refine Below.trans ?_ (Below.mono hb9 ?_)); rotate_left; (next => ((try dsimp only); (try simp only [World.size_alloc, World.size_setCell, World.size_drew]); omega))) | ((with_reducible refine Below.trans ?_ (Below.mono hb8 ?_)); rotate_left; (next => ((try dsimp only); (try simp only [World.size_alloc, World.size_setCell, World.size_drew]); omega))) | ((with_reducible refine Below.trans ?_ (Below.mono hb7 ?_)); rotate_left; (next => ((try dsimp only); (try simp only [World.size_alloc, World.size_setCell, World.size_drew]); omega))) | ((with_reducible refine Below.trans ?_ (Below.mono hb6 ?_)); rotate_left; (next => ((try dsimp only); (try simp only [World.size_alloc, World.size_setCell, World.size_drew]); omega))) | ((with_reducible refine Below.trans ?_ (Below.mono hb5 ?_)); rotate_left; (next => ((try dsimp only); (try simp only [World.size_alloc, World.size_setCell, World.size_drew]); omega))) | ((with_reducible refine Below.trans ?_ (Below.mono hb4 ?_)); rotate_left; (next => ((try dsimp only); (try simp only [World.size_alloc, World.size_setCell, World.size_drew]); omega))) | ((with_reducible refine Below.trans ?_ (Below.mono hb3 ?_)); rotate_left; (next => ((try dsimp only); (try simp only [World.size_alloc, World.size_setCell, World.size_drew]); omega))) | ((with_reducible refine Below.trans ?_ (Below.mono hb2 ?_)); rotate_left; (next => ((try dsimp only); (try simp only [World.size_alloc, World.size_setCell, World.size_drew]); omega))) | ((with_reducible refine Below.trans ?_ (Below.mono hb1 ?_)); rotate_left; (next => ((try dsimp only); (try simp only [World.size_alloc, World.size_setCell, World.size_drew]); omega)))))⟩
end Go.Proofs.Ytgiipelonojgaaa

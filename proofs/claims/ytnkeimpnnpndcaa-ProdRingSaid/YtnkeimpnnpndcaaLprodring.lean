import Derived.Test.YtnkeimpnnpndcaaW3
set_option linter.unusedSimpArgs false
set_option linter.unusedVariables false
namespace Go.Proofs.Ytnkeimpnnpndcaa
open Go.RowKit

theorem prod42 {a b : Int} (ha : 0 ≤ a ∧ a < 4398046511104) (hb : 0 ≤ b ∧ b < 4398046511104) : 0 ≤ a * b ∧ a * b < 19342813113834066795298816 :=
  ⟨Int.mul_nonneg ha.1 hb.1, Int.lt_of_le_of_lt (Int.mul_le_mul (show a ≤ 4398046511103 by omega) (show b ≤ 4398046511103 by omega) hb.1 (by omega)) (by omega)⟩
theorem prod84 {a b : Int} (ha : 0 ≤ a ∧ a < 19342813113834066795298816) (hb : 0 ≤ b ∧ b < 4398046511104) : U128 (a * b) :=
  ⟨Int.mul_nonneg ha.1 hb.1, Int.lt_of_le_of_lt (Int.mul_le_mul (show a ≤ 19342813113834066795298815 by omega) (show b ≤ 4398046511103 by omega) hb.1 (by omega)) (by omega)⟩

set_option maxRecDepth 100000 in
set_option maxHeartbeats 4000000 in
theorem prodRing_walk (a b c : Int) (w : World) (ha : U128 a) (hb : U128 b) (hc : U128 c) :
    Calls Try.prog 4 #[.agg #[.int .u64 (hi a), .int .u64 (lo a)], .agg #[.int .u64 (hi b), .int .u64 (lo b)], .agg #[.int .u64 (hi c), .int .u64 (lo c)]] w fun e w' =>
      e = .returned (.bool true) ∧ Below w.heap.size w w' := by
  have k1 := Wd.mk ha
  have k2 := Wd.mk hb
  have k3 := Wd.mk hc
  have la := lo_u64 a
  have lb := lo_u64 b
  have lc := lo_u64 c
  unfold U64 at la lb lc
  have b1 : 0 ≤ lo a / 4194304 ∧ lo a / 4194304 < 4398046511104 := by omega
  have b2 : 0 ≤ lo b / 4194304 ∧ lo b / 4194304 < 4398046511104 := by omega
  have b3 : 0 ≤ lo c / 4194304 ∧ lo c / 4194304 < 4398046511104 := by omega
  obtain ⟨x, hx⟩ : ∃ x, lo a / 4194304 = x := ⟨_, rfl⟩
  rw [hx] at b1
  have Hx := Lib.hid hx
  clear hx
  obtain ⟨y, hy⟩ : ∃ x, lo b / 4194304 = x := ⟨_, rfl⟩
  rw [hy] at b2
  have Hy := Lib.hid hy
  clear hy
  obtain ⟨z, hz⟩ : ∃ x, lo c / 4194304 = x := ⟨_, rfl⟩
  rw [hz] at b3
  have Hz := Lib.hid hz
  clear hz
  clear la lb lc ha hb hc
  have pxy := prod42 b1 b2
  have pyz := prod42 b2 b3
  have pxz := prod42 b1 b3
  have u1 : U64 x := by unfold U64; omega
  have u2 : U64 y := by unfold U64; omega
  have u3 : U64 z := by unfold U64; omega
  have u4 := prod84 pxy b3
  have e1 : x * (y * z) = x * y * z := (Int.mul_assoc _ _ _).symm
  have e2 : x * (y + z) = x * y + x * z := Int.mul_add _ _ _
  have u5 : U128 (x * y) := by unfold U128; omega
  have u6 : U128 (y * z) := by unfold U128; omega
  have u7 : U128 (x * z) := by unfold U128; omega
  have u8 : U128 (y + z) := by unfold U128; omega
  have u9 : U128 (x * y + x * z) := by unfold U128; omega
  have E1 := Lib.hid e1
  have E2 := Lib.hid e2
  clear e1 e2
  have qa := alloc_cells
  have qf := alloc_frozens
  go_enter Try.func4, Try.ntmps4
  go_wp2_with fail
  refine (mul_any 9223372036854775808 4 36893488147419103232 _ (by unfold U64; omega) (by unfold U64; omega) (by omega)).mono ?_
  rintro e w1 ⟨rfl, hb1⟩
  have z1 := hb1.size
  have c1 := Below.cells hb1
  have f1 := Below.frozens hb1
  try simp only [World.size_alloc, World.size_setCell, World.size_drew] at z1 c1 f1
  go_wp2_with fail
  refine wp_region_quiet_tail 6 (Ext _) (by kernel_rfl) (by kernel_rfl) (Ext.drawn _) ?_
  simp only [List.take_succ_cons, List.take_zero, List.drop_succ_cons, List.drop_zero]
  repeat (first | (refine BigFrame.wpQuiet_skip rfl ?_) | go_big_quiet_step (fail) | (refine BigFrame.wpQuiet_want rfl (fun K hK => ?_); apply Exists.intro; refine ⟨fun w2 h2 => ?_, ?_⟩; (next => (have g1 := Below.cells h2.below; have g2 := Below.frozens h2.below; simp only [World.size_alloc] at g1 g2; first | (go_simp; (first | (go_at_call_of 22 (Value.agg #[Value.int IntKind.u64 (hi a), Value.int IntKind.u64 (lo a)]); refine h2.calls (short_any a x k1 Hx.out _)) | (go_at_call_of 22 (Value.agg #[Value.int IntKind.u64 (hi b), Value.int IntKind.u64 (lo b)]); refine h2.calls (short_any b y k2 Hy.out _)) | (go_at_call_of 22 (Value.agg #[Value.int IntKind.u64 (hi c), Value.int IntKind.u64 (lo c)]); refine h2.calls (short_any c z k3 Hz.out _)))) | (simp [go_sem, ↓IntWalk.iteOmega, *]; done) | (simp [go_sem, ↓IntWalk.iteOmega, *]; rfl)))); (go_simp; refine hK _ ?_; clear hK K))
  refine wpQuiet_nil ?_
  intro w3 h3
  have hb3 := h3.below
  clear h3
  have z3 := hb3.size
  have c3 := Below.cells hb3
  have f3 := Below.frozens hb3
  try simp only [World.size_alloc, World.size_setCell, World.size_drew] at z3 c3 f3
  go_wp2_with fail
  refine (times_ok x y (x * y) (Wd.lit u1) (Wd.lit u2) rfl u5 _).mono ?_
  rintro e w4 ⟨rfl, hb4⟩
  have z4 := hb4.size
  have c4 := Below.cells hb4
  have f4 := Below.frozens hb4
  try simp only [World.size_alloc, World.size_setCell, World.size_drew] at z4 c4 f4
  go_wp2_with fail
  refine (times_ok y x (x * y) (Wd.lit u2) (Wd.lit u1) (Int.mul_comm _ _) u5 _).mono ?_
  rintro e w5 ⟨rfl, hb5⟩
  have z5 := hb5.size
  have c5 := Below.cells hb5
  have f5 := Below.frozens hb5
  try simp only [World.size_alloc, World.size_setCell, World.size_drew] at z5 c5 f5
  go_wp2_with fail
  refine (times_ok (x * y) z (x * y * z) (Wd.mk u5) (Wd.lit u3) rfl u4 _).mono ?_
  rintro e w6 ⟨rfl, hb6⟩
  have z6 := hb6.size
  have c6 := Below.cells hb6
  have f6 := Below.frozens hb6
  try simp only [World.size_alloc, World.size_setCell, World.size_drew] at z6 c6 f6
  go_wp2_with fail
  refine (times_ok y z (y * z) (Wd.lit u2) (Wd.lit u3) rfl u6 _).mono ?_
  rintro e w7 ⟨rfl, hb7⟩
  have z7 := hb7.size
  have c7 := Below.cells hb7
  have f7 := Below.frozens hb7
  try simp only [World.size_alloc, World.size_setCell, World.size_drew] at z7 c7 f7
  go_wp2_with fail
  refine (times_ok x (y * z) (x * y * z) (Wd.lit u1) (Wd.mk u6) E1.out u4 _).mono ?_
  rintro e w8 ⟨rfl, hb8⟩
  have z8 := hb8.size
  have c8 := Below.cells hb8
  have f8 := Below.frozens hb8
  try simp only [World.size_alloc, World.size_setCell, World.size_drew] at z8 c8 f8
  go_wp2_with fail
  refine (add_ok y z (y + z) (Wd.lit u2) (Wd.lit u3) rfl u8 _).mono ?_
  rintro e w9 ⟨rfl, hb9⟩
  have z9 := hb9.size
  have c9 := Below.cells hb9
  have f9 := Below.frozens hb9
  try simp only [World.size_alloc, World.size_setCell, World.size_drew] at z9 c9 f9
  go_wp2_with fail
  refine (times_ok x (y + z) (x * y + x * z) (Wd.lit u1) (Wd.mk u8) E2.out u9 _).mono ?_
  rintro e w10 ⟨rfl, hb10⟩
  have z10 := hb10.size
  have c10 := Below.cells hb10
  have f10 := Below.frozens hb10
  try simp only [World.size_alloc, World.size_setCell, World.size_drew] at z10 c10 f10
  go_wp2_with fail
  refine (times_ok x z (x * z) (Wd.lit u1) (Wd.lit u3) rfl u7 _).mono ?_
  rintro e w11 ⟨rfl, hb11⟩
  have z11 := hb11.size
  have c11 := Below.cells hb11
  have f11 := Below.frozens hb11
  try simp only [World.size_alloc, World.size_setCell, World.size_drew] at z11 c11 f11
  go_wp2_with fail
  refine (add_ok (x * y) (x * z) (x * y + x * z) (Wd.mk u5) (Wd.mk u7) rfl u9 _).mono ?_
  rintro e w12 ⟨rfl, hb12⟩
  have z12 := hb12.size
  have c12 := Below.cells hb12
  have f12 := Below.frozens hb12
  try simp only [World.size_alloc, World.size_setCell, World.size_drew] at z12 c12 f12
  go_wp2_with fail
  refine wp_loop_rounds 10 ?_
  iterate 10 (rw [rounds_succ]; go_wp2_with fail)
  have hz1 : hi 0 = 0 := rfl
  have hz2 : lo 0 = 0 := rfl
  have cases : (x = 0) ∨ (¬ x = 0 ∧ y = 0) ∨ (¬ x = 0 ∧ ¬ y = 0 ∧ hi (x * y) = 0 ∧ ¬ lo (x * y) = 0) ∨ (¬ x = 0 ∧ ¬ y = 0 ∧ ¬ hi (x * y) = 0) := by
    by_cases cx : x = 0
    · exact .inl cx
    · by_cases cy : y = 0
      · exact .inr (.inl ⟨cx, cy⟩)
      · have pos : 0 < x * y := Int.mul_pos (by omega) (by omega)
        by_cases ch : hi (x * y) = 0
        · exact .inr (.inr (.inl ⟨cx, cy, ch, by unfold hi lo at *; omega⟩))
        · exact .inr (.inr (.inr ⟨cx, cy, ch⟩))
  rcases cases with cx | ⟨cx, cy⟩ | ⟨cx, cy, ch, cl⟩ | ⟨cx, cy, ch⟩
  · subst cx
    simp only [Int.zero_mul, Int.mul_zero, Int.zero_add, Int.add_zero, hz1, hz2]
    refine wp_region_quiet_all (Ext _) (by kernel_rfl) (by kernel_rfl) (Ext.drawn _) ?_
    repeat (first | (refine BigFrame.wpQuiet_skip rfl ?_) | go_big_quiet_step (fail) | (refine BigFrame.wpQuiet_want rfl (fun K hK => ?_); apply Exists.intro; refine ⟨fun w2 h2 => ?_, ?_⟩; (next => (have g1 := Below.cells h2.below; have g2 := Below.frozens h2.below; simp only [World.size_alloc] at g1 g2; first | (go_simp; (go_at_call 21; refine h2.calls (mul_any 0 y 0 _ u1 u2 (Int.zero_mul y)))) | (simp [go_sem, ↓IntWalk.iteOmega, *]; done) | (simp [go_sem, ↓IntWalk.iteOmega, *]; rfl)))); (go_simp; refine hK _ ?_; clear hK K))
    refine wpQuiet_nil ?_
    intro w13 h13
    have hb13 := h13.below
    clear h13
    go_wp2_with fail
    go_ret
    exact ⟨rfl, (by repeat (first | (with_reducible exact Below.refl _ _) | ((with_reducible refine Below.alloc ?_ ?_ _); rotate_left; (next => ((try dsimp only); (try simp only [World.size_alloc, World.size_setCell, World.size_drew]); omega))) | ((with_reducible refine Below.setCell ?_ ?_ _); rotate_left; (next => ((try dsimp only); (try simp only [World.size_alloc, World.size_setCell, World.size_drew]); omega))) | (with_reducible refine Below.drew ?_) | ((with_reducible refine Below.trans ?_ (Below.mono hb13 ?_)); rotate_left; (next => ((try dsimp only); (try simp only [World.size_alloc, World.size_setCell, World.size_drew]); omega))) | ((with_reducible refine Below.trans ?_ (Below.mono hb12 ?_)); rotate_left; (next => ((try dsimp only); (try simp only [World.size_alloc, World.size_setCell, World.size_drew]); omega))) | ((with_reducible refine Below.trans ?_ (Below.mono hb11 ?_)); rotate_left; (next => ((try dsimp only); (try simp only [World.size_alloc, World.size_setCell, World.size_drew]); omega))) | ((with_reducible refine Below.trans ?_ (Below.mono hb10 ?_)); rotate_left; (next => ((try dsimp only); (try simp only [World.size_alloc, World.size_setCell, World.size_drew]); omega))) | ((with_reducible refine Below.trans ?_ (Below.mono hb9 ?_)); rotate_left; (next => ((try dsimp only); (try simp only [World.size_alloc, World.size_setCell, World.size_drew]); omega))) | ((with_reducible refine Below.trans ?_ (Below.mono hb8 ?_)); rotate_left; (next => ((try dsimp only); (try simp only [World.size_alloc, World.size_setCell, World.size_drew]); omega))) | ((with_reducible refine Below.trans ?_ (Below.mono hb7 ?_)); rotate_left; (next => ((try dsimp only); (try simp only [World.size_alloc, World.size_setCell, World.size_drew]); omega))) | ((with_reducible refine Below.trans ?_ (Below.mono hb6 ?_)); rotate_left; (next => ((try dsimp only); (try simp only [World.size_alloc, World.size_setCell, World.size_drew]); omega))) | ((with_reducible refine Below.trans ?_ (Below.mono hb5 ?_)); rotate_left; (next => ((try dsimp only); (try simp only [World.size_alloc, World.size_setCell, World.size_drew]); omega))) | ((with_reducible refine Below.trans ?_ (Below.mono hb4 ?_)); rotate_left; (next => ((try dsimp only); (try simp only [World.size_alloc, World.size_setCell, World.size_drew]); omega))) | ((with_reducible refine Below.trans ?_ (Below.mono hb3 ?_)); rotate_left; (next => ((try dsimp only); (try simp only [World.size_alloc, World.size_setCell, World.size_drew]); omega))) | ((with_reducible refine Below.trans ?_ (Below.mono hb1 ?_)); rotate_left; (next => ((try dsimp only); (try simp only [World.size_alloc, World.size_setCell, World.size_drew]); omega)))))⟩
  · subst cy
    simp only [Int.zero_mul, Int.mul_zero, Int.zero_add, Int.add_zero, hz1, hz2]
    refine wp_region_quiet_all (Ext _) (by kernel_rfl) (by kernel_rfl) (Ext.drawn _) ?_
    repeat (first | (refine BigFrame.wpQuiet_skip rfl ?_) | go_big_quiet_step (fail) | (refine BigFrame.wpQuiet_want rfl (fun K hK => ?_); apply Exists.intro; refine ⟨fun w2 h2 => ?_, ?_⟩; (next => (have g1 := Below.cells h2.below; have g2 := Below.frozens h2.below; simp only [World.size_alloc] at g1 g2; first | (go_simp; (go_at_call 21; refine h2.calls (mul_any x 0 0 _ u1 u2 (Int.mul_zero x)))) | (simp [go_sem, ↓IntWalk.iteOmega, *]; done) | (simp [go_sem, ↓IntWalk.iteOmega, *]; rfl)))); (go_simp; refine hK _ ?_; clear hK K))
    refine wpQuiet_nil ?_
    intro w13 h13
    have hb13 := h13.below
    clear h13
    go_wp2_with fail
    go_ret
    exact ⟨rfl, (by repeat (first | (with_reducible exact Below.refl _ _) | ((with_reducible refine Below.alloc ?_ ?_ _); rotate_left; (next => ((try dsimp only); (try simp only [World.size_alloc, World.size_setCell, World.size_drew]); omega))) | ((with_reducible refine Below.setCell ?_ ?_ _); rotate_left; (next => ((try dsimp only); (try simp only [World.size_alloc, World.size_setCell, World.size_drew]); omega))) | (with_reducible refine Below.drew ?_) | ((with_reducible refine Below.trans ?_ (Below.mono hb13 ?_)); rotate_left; (next => ((try dsimp only); (try simp only [World.size_alloc, World.size_setCell, World.size_drew]); omega))) | ((with_reducible refine Below.trans ?_ (Below.mono hb12 ?_)); rotate_left; (next => ((try dsimp only); (try simp only [World.size_alloc, World.size_setCell, World.size_drew]); omega))) | ((with_reducible refine Below.trans ?_ (Below.mono hb11 ?_)); rotate_left; (next => ((try dsimp only); (try simp only [World.size_alloc, World.size_setCell, World.size_drew]); omega))) | ((with_reducible refine Below.trans ?_ (Below.mono hb10 ?_)); rotate_left; (next => ((try dsimp only); (try simp only [World.size_alloc, World.size_setCell, World.size_drew]); omega))) | ((with_reducible refine Below.trans ?_ (Below.mono hb9 ?_)); rotate_left; (next => ((try dsimp only); (try simp only [World.size_alloc, World.size_setCell, World.size_drew]); omega))) | ((with_reducible refine Below.trans ?_ (Below.mono hb8 ?_)); rotate_left; (next => ((try dsimp only); (try simp only [World.size_alloc, World.size_setCell, World.size_drew]); omega))) | ((with_reducible refine Below.trans ?_ (Below.mono hb7 ?_)); rotate_left; (next => ((try dsimp only); (try simp only [World.size_alloc, World.size_setCell, World.size_drew]); omega))) | ((with_reducible refine Below.trans ?_ (Below.mono hb6 ?_)); rotate_left; (next => ((try dsimp only); (try simp only [World.size_alloc, World.size_setCell, World.size_drew]); omega))) | ((with_reducible refine Below.trans ?_ (Below.mono hb5 ?_)); rotate_left; (next => ((try dsimp only); (try simp only [World.size_alloc, World.size_setCell, World.size_drew]); omega))) | ((with_reducible refine Below.trans ?_ (Below.mono hb4 ?_)); rotate_left; (next => ((try dsimp only); (try simp only [World.size_alloc, World.size_setCell, World.size_drew]); omega))) | ((with_reducible refine Below.trans ?_ (Below.mono hb3 ?_)); rotate_left; (next => ((try dsimp only); (try simp only [World.size_alloc, World.size_setCell, World.size_drew]); omega))) | ((with_reducible refine Below.trans ?_ (Below.mono hb1 ?_)); rotate_left; (next => ((try dsimp only); (try simp only [World.size_alloc, World.size_setCell, World.size_drew]); omega)))))⟩
  · refine wp_region_quiet_all (Ext _) (by kernel_rfl) (by kernel_rfl) (Ext.drawn _) ?_
    repeat (first | (refine BigFrame.wpQuiet_skip rfl ?_) | go_big_quiet_step (fail) | (refine BigFrame.wpQuiet_want rfl (fun K hK => ?_); apply Exists.intro; refine ⟨fun w2 h2 => ?_, ?_⟩; (next => (have g1 := Below.cells h2.below; have g2 := Below.frozens h2.below; simp only [World.size_alloc] at g1 g2; first | (go_simp; (go_at_call 21; refine h2.calls (mul_any x y (x * y) _ u1 u2 rfl))) | (simp [go_sem, ↓IntWalk.iteOmega, *]; done) | (simp [go_sem, ↓IntWalk.iteOmega, *]; rfl)))); (go_simp; refine hK _ ?_; clear hK K))
    refine wpQuiet_nil ?_
    intro w13 h13
    have hb13 := h13.below
    clear h13
    go_wp2_with fail
    go_ret
    exact ⟨rfl, (by repeat (first | (with_reducible exact Below.refl _ _) | ((with_reducible refine Below.alloc ?_ ?_ _); rotate_left; (next => ((try dsimp only); (try simp only [World.size_alloc, World.size_setCell, World.size_drew]); omega))) | ((with_reducible refine Below.setCell ?_ ?_ _); rotate_left; (next => ((try dsimp only); (try simp only [World.size_alloc, World.size_setCell, World.size_drew]); omega))) | (with_reducible refine Below.drew ?_) | ((with_reducible refine Below.trans ?_ (Below.mono hb13 ?_)); rotate_left; (next => ((try dsimp only); (try simp only [World.size_alloc, World.size_setCell, World.size_drew]); omega))) | ((with_reducible refine Below.trans ?_ (Below.mono hb12 ?_)); rotate_left; (next => ((try dsimp only); (try simp only [World.size_alloc, World.size_setCell, World.size_drew]); omega))) | ((with_reducible refine Below.trans ?_ (Below.mono hb11 ?_)); rotate_left; (next => ((try dsimp only); (try simp only [World.size_alloc, World.size_setCell, World.size_drew]); omega))) | ((with_reducible refine Below.trans ?_ (Below.mono hb10 ?_)); rotate_left; (next => ((try dsimp only); (try simp only [World.size_alloc, World.size_setCell, World.size_drew]); omega))) | ((with_reducible refine Below.trans ?_ (Below.mono hb9 ?_)); rotate_left; (next => ((try dsimp only); (try simp only [World.size_alloc, World.size_setCell, World.size_drew]); omega))) | ((with_reducible refine Below.trans ?_ (Below.mono hb8 ?_)); rotate_left; (next => ((try dsimp only); (try simp only [World.size_alloc, World.size_setCell, World.size_drew]); omega))) | ((with_reducible refine Below.trans ?_ (Below.mono hb7 ?_)); rotate_left; (next => ((try dsimp only); (try simp only [World.size_alloc, World.size_setCell, World.size_drew]); omega))) | ((with_reducible refine Below.trans ?_ (Below.mono hb6 ?_)); rotate_left; (next => ((try dsimp only); (try simp only [World.size_alloc, World.size_setCell, World.size_drew]); omega))) | ((with_reducible refine Below.trans ?_ (Below.mono hb5 ?_)); rotate_left; (next => ((try dsimp only); (try simp only [World.size_alloc, World.size_setCell, World.size_drew]); omega))) | ((with_reducible refine Below.trans ?_ (Below.mono hb4 ?_)); rotate_left; (next => ((try dsimp only); (try simp only [World.size_alloc, World.size_setCell, World.size_drew]); omega))) | ((with_reducible refine Below.trans ?_ (Below.mono hb3 ?_)); rotate_left; (next => ((try dsimp only); (try simp only [World.size_alloc, World.size_setCell, World.size_drew]); omega))) | ((with_reducible refine Below.trans ?_ (Below.mono hb1 ?_)); rotate_left; (next => ((try dsimp only); (try simp only [World.size_alloc, World.size_setCell, World.size_drew]); omega)))))⟩
  · refine wp_region_quiet_all (Ext _) (by kernel_rfl) (by kernel_rfl) (Ext.drawn _) ?_
    repeat (first | (refine BigFrame.wpQuiet_skip rfl ?_) | go_big_quiet_step (fail) | (refine BigFrame.wpQuiet_want rfl (fun K hK => ?_); apply Exists.intro; refine ⟨fun w2 h2 => ?_, ?_⟩; (next => (have g1 := Below.cells h2.below; have g2 := Below.frozens h2.below; simp only [World.size_alloc] at g1 g2; first | (go_simp; (go_at_call 21; refine h2.calls (mul_any x y (x * y) _ u1 u2 rfl))) | (simp [go_sem, ↓IntWalk.iteOmega, *]; done) | (simp [go_sem, ↓IntWalk.iteOmega, *]; rfl)))); (go_simp; refine hK _ ?_; clear hK K))
    refine wpQuiet_nil ?_
    intro w13 h13
    have hb13 := h13.below
    clear h13
    go_wp2_with fail
    go_ret
    exact ⟨rfl, (by repeat (first | (with_reducible exact Below.refl _ _) | ((with_reducible refine Below.alloc ?_ ?_ _); rotate_left; (next => ((try dsimp only); (try simp only [World.size_alloc, World.size_setCell, World.size_drew]); omega))) | ((with_reducible refine Below.setCell ?_ ?_ _); rotate_left; (next => ((try dsimp only); (try simp only [World.size_alloc, World.size_setCell, World.size_drew]); omega))) | (with_reducible refine Below.drew ?_) | ((with_reducible refine Below.trans ?_ (Below.mono hb13 ?_)); rotate_left; (next => ((try dsimp only); (try simp only [World.size_alloc, World.size_setCell, World.size_drew]); omega))) | ((with_reducible refine Below.trans ?_ (Below.mono hb12 ?_)); rotate_left; (next => ((try dsimp only); (try simp only [World.size_alloc, World.size_setCell, World.size_drew]); omega))) | ((with_reducible refine Below.trans ?_ (Below.mono hb11 ?_)); rotate_left; (next => ((try dsimp only); (try simp only [World.size_alloc, World.size_setCell, World.size_drew]); omega))) | ((with_reducible refine Below.trans ?_ (Below.mono hb10 ?_)); rotate_left; (next => ((try dsimp only); (try simp only [World.size_alloc, World.size_setCell, World.size_drew]); omega))) | ((with_reducible refine Below.trans ?_ (Below.mono hb9 ?_)); rotate_left; (next => ((try dsimp only); (try simp only [World.size_alloc, World.size_setCell, World.size_drew]); omega))) | ((with_reducible refine Below.trans ?_ (Below.mono hb8 ?_)); rotate_left; (next => ((try dsimp only); (try simp only [World.size_alloc, World.size_setCell, World.size_drew]); omega))) | ((with_reducible refine Below.trans ?_ (Below.mono hb7 ?_)); rotate_left; (next => ((try dsimp only); (try simp only [World.size_alloc, World.size_setCell, World.size_drew]); omega))) | ((with_reducible refine Below.trans ?_ (Below.mono hb6 ?_)); rotate_left; (next => ((try dsimp only); (try simp only [World.size_alloc, World.size_setCell, World.size_drew]); omega))) | ((with_reducible refine Below.trans ?_ (Below.mono hb5 ?_)); rotate_left; (next => ((try dsimp only); (try simp only [World.size_alloc, World.size_setCell, World.size_drew]); omega))) | ((with_reducible refine Below.trans ?_ (Below.mono hb4 ?_)); rotate_left; (next => ((try dsimp only); (try simp only [World.size_alloc, World.size_setCell, World.size_drew]); omega))) | ((with_reducible refine Below.trans ?_ (Below.mono hb3 ?_)); rotate_left; (next => ((try dsimp only); (try simp only [World.size_alloc, World.size_setCell, World.size_drew]); omega))) | ((with_reducible refine Below.trans ?_ (Below.mono hb1 ?_)); rotate_left; (next => ((try dsimp only); (try simp only [World.size_alloc, World.size_setCell, World.size_drew]); omega)))))⟩
end Go.Proofs.Ytnkeimpnnpndcaa

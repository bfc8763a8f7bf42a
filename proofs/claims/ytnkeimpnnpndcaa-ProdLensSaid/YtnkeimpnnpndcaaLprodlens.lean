import Derived.Test.YtnkeimpnnpndcaaW2
set_option linter.unusedSimpArgs false
set_option linter.unusedVariables false
namespace Go.Proofs.Ytnkeimpnnpndcaa
open Go.RowKit

theorem lens_prod {a b : Int} (ha : U64 a) (hb : U64 b) (a0 : 0 < a) (b0 : 0 < b) : blen (a * b) = blen a + blen b ∨ blen (a * b) = blen a + blen b - 1 := by
  have ua : U128 a := by unfold U64 at ha; unfold U128; omega
  have ub : U128 b := by unfold U64 at hb; unfold U128; omega
  have up : U128 (a * b) := by
    have h1 := Int.mul_nonneg ha.1 hb.1
    have h2 := Int.mul_le_mul (show a ≤ 18446744073709551615 by unfold U64 at ha; omega) (show b ≤ 18446744073709551615 by unfold U64 at hb; omega) hb.1 (by omega)
    unfold U128; omega
  obtain ⟨i, ei, li, ui⟩ := blen_pos ua a0
  obtain ⟨j, ej, lj, uj⟩ := blen_pos ub b0
  have pi := p2 i
  have pj := p2 j
  have l1 : (2 : Int) ^ (i + j) ≤ a * b := by rw [Int.pow_add]; exact Int.mul_le_mul li lj (by omega) (by omega)
  have u1 : a * b < 2 ^ (i + j + 2) := by
    rw [show i + j + 2 = (i + 1) + (j + 1) from by omega, Int.pow_add]
    exact Int.lt_of_lt_of_le (Int.mul_lt_mul_of_pos_right ui b0) (Int.mul_le_mul_of_nonneg_left (by omega) (by have := p2 (i + 1); omega))
  by_cases c : a * b < 2 ^ (i + j + 1)
  · right; rw [blen_uniq up l1 c, ei, ej]; omega
  · left; rw [blen_uniq up (k := i + j + 1) (by omega) u1, ei, ej]; omega

theorem quad {a : Int} (h : U64 a) : 0 ≤ a / 4 ∧ a / 4 < 4611686018427387904 := by unfold U64 at h; omega
theorem prod62 {x y : Int} (hx : 0 ≤ x ∧ x < 4611686018427387904) (hy : 0 ≤ y ∧ y < 4611686018427387904) : 0 ≤ x * y ∧ x * y < 21267647932558653966460912964485513216 :=
  ⟨Int.mul_nonneg hx.1 hy.1, Int.lt_of_le_of_lt (Int.mul_le_mul (show x ≤ 4611686018427387903 by omega) (show y ≤ 4611686018427387903 by omega) hy.1 (by omega)) (by omega)⟩

set_option maxRecDepth 100000 in
set_option maxHeartbeats 8000000 in
theorem prodLens_walk (a b : Int) (w : World) (wa : (Lit.int .u64 a).wf = true) (wb : (Lit.int .u64 b).wf = true) :
    Calls Try.prog 5 #[.int .u64 a, .int .u64 b] w fun e w' =>
      e = .returned (.bool true) ∧ Below w.heap.size w w' := by
  have ua := u64_wf wa
  have ub := u64_wf wb
  have qa := alloc_cells
  have qf := alloc_frozens
  have up : U128 (a * b) := by
    have h1 := Int.mul_nonneg ua.1 ub.1
    have h2 := Int.mul_le_mul (show a ≤ 18446744073709551615 by unfold U64 at ua; omega) (show b ≤ 18446744073709551615 by unfold U64 at ub; omega) ub.1 (by omega)
    unfold U128; omega
  have La := blen_bd (a := a) (by unfold U64 at ua; unfold U128; omega)
  have Lb := blen_bd (a := b) (by unfold U64 at ub; unfold U128; omega)
  have Lp := blen_bd up
  have hl : 0 < a → 0 < b → blen (a * b) = blen a + blen b ∨ blen (a * b) = blen a + blen b - 1 := lens_prod ua ub
  have ka := Wd.lit ua
  have kb := Wd.lit ub
  have kp := Wd.mk up
  have qx := quad ua
  have qy := quad ub
  have e9 : blen 9 = 4 := by decide
  have hla : ∀ w', _ := fun w' => len_any a ka w'
  have hlb : ∀ w', _ := fun w' => len_any b kb w'
  have hlp : ∀ w', _ := fun w' => len_any (a * b) kp w'
  have hl9 : ∀ w', _ := fun w' => e9 ▸ len_any 9 (Wd.mk (by unfold U128; omega)) w'
  have hmp : ∀ w', _ := fun w' => mul_any a b (a * b) w' ua ub rfl
  obtain ⟨x, hx⟩ : ∃ x, a / 4 = x := ⟨_, rfl⟩
  obtain ⟨y, hy⟩ : ∃ y, b / 4 = y := ⟨_, rfl⟩
  rw [hx] at qx
  rw [hy] at qy
  have pxx := prod62 qx qx
  have pyy := prod62 qy qy
  have pxy := prod62 qx qy
  have ux : U64 x := by unfold U64; omega
  have uy : U64 y := by unfold U64; omega
  have uxy : U64 (x + y) := by unfold U64; omega
  have s1 : (x + y) * (x + y) = x * x + y * y + (x * y + x * y) := by
    rw [Int.add_mul, Int.mul_add, Int.mul_add, Int.mul_comm y x]; omega
  have m1 : ∀ w', _ := fun w' => mul_any x x (x * x) w' ux ux rfl
  have m2 : ∀ w', _ := fun w' => mul_any y y (y * y) w' uy uy rfl
  have m3 : ∀ w', _ := fun w' => mul_any x y (x * y) w' ux uy rfl
  have m4 : ∀ w', _ := fun w' => mul_any y x (x * y) w' uy ux (Int.mul_comm _ _)
  have m5 : ∀ w', _ := fun w' => mul_any (x + y) (x + y) _ w' uxy uxy s1
  have u1 : U128 (x * x) := by unfold U128; omega
  have u2 : U128 (y * y) := by unfold U128; omega
  have u3 : U128 (x * y) := by unfold U128; omega
  have u4 : U128 (x * x + y * y) := by unfold U128; omega
  have u5 : U128 (x * y + x * y) := by unfold U128; omega
  have u6 : U128 (x * x + y * y + (x * y + x * y)) := by unfold U128; omega
  have ea : IntKind.u64.wrap (x + y) = x + y := IntWalk.u64_in _ (by omega)
  clear s1 e9 wa wb up
  obtain ⟨L, hL⟩ : ∃ x, blen a = x := ⟨_, rfl⟩
  obtain ⟨M, hM⟩ : ∃ x, blen b = x := ⟨_, rfl⟩
  obtain ⟨N, hN⟩ : ∃ x, blen (a * b) = x := ⟨_, rfl⟩
  obtain ⟨p, hp⟩ : ∃ x, a * b = x := ⟨_, rfl⟩
  simp only [hL, hM, hN] at La Lb Lp hl hla hlb hlp
  rw [hp] at hlp hmp kp
  have Hla := Lib.hid hla
  have Hlb := Lib.hid hlb
  have Hlp := Lib.hid hlp
  have Hl9 := Lib.hid hl9
  have Hmp := Lib.hid hmp
  have M1 := Lib.hid m1
  have M2 := Lib.hid m2
  have M3 := Lib.hid m3
  have M4 := Lib.hid m4
  have M5 := Lib.hid m5
  have Hx := Lib.hid hx
  have Hy := Lib.hid hy
  have a0 := ua.1
  have b0 := ub.1
  clear hla hlb hlp hl9 hmp m1 m2 m3 m4 m5 hL hM hN hp hx hy ka kb kp ua ub
  have cs : a = 0 ∨ (0 < a ∧ b = 0) ∨ (0 < a ∧ 0 < b ∧ N = L + M) ∨ (0 < a ∧ 0 < b ∧ N = L + M - 1) := by
    by_cases c1 : 0 < a
    · by_cases c2 : 0 < b
      · rcases hl c1 c2 with h | h
        · exact .inr (.inr (.inl ⟨c1, c2, h⟩))
        · exact .inr (.inr (.inr ⟨c1, c2, h⟩))
      · exact .inr (.inl ⟨c1, by omega⟩)
    · exact .inl (by omega)
  clear hl
  have eLM : IntKind.i64.wrap (L + M) = L + M := IntWalk.i64_in _ (by omega)
  rcases cs with c1 | ⟨c1, c2⟩ | ⟨c1, c2, c3⟩ | ⟨c1, c2, c3⟩
  · have na : ¬ 0 < a := by omega
    clear c1
    go_enter Try.func5, Try.ntmps5
    go_wp2_with fail
    refine (mul_any 3 3 9 _ (by unfold U64; omega) (by unfold U64; omega) (by omega)).mono ?_
    rintro e w1 ⟨rfl, hb1⟩
    have z1 := hb1.size
    have c1 := Below.cells hb1
    have f1 := Below.frozens hb1
    try simp only [World.size_alloc, World.size_setCell, World.size_drew] at z1 c1 f1
    go_wp2_with fail
    refine (Hl9.out _).mono ?_
    rintro e w2 ⟨rfl, hb2⟩
    have z2 := hb2.size
    have c2 := Below.cells hb2
    have f2 := Below.frozens hb2
    try simp only [World.size_alloc, World.size_setCell, World.size_drew] at z2 c2 f2
    go_wp2_with fail
    refine (Hmp.out _).mono ?_
    rintro e w3 ⟨rfl, hb3⟩
    have z3 := hb3.size
    have c3 := Below.cells hb3
    have f3 := Below.frozens hb3
    try simp only [World.size_alloc, World.size_setCell, World.size_drew] at z3 c3 f3
    go_wp2_with fail
    refine (Hla.out _).mono ?_
    rintro e w4 ⟨rfl, hb4⟩
    have z4 := hb4.size
    have c4 := Below.cells hb4
    have f4 := Below.frozens hb4
    try simp only [World.size_alloc, World.size_setCell, World.size_drew] at z4 c4 f4
    go_wp2_with fail
    refine (Hlb.out _).mono ?_
    rintro e w5 ⟨rfl, hb5⟩
    have z5 := hb5.size
    have c5 := Below.cells hb5
    have f5 := Below.frozens hb5
    try simp only [World.size_alloc, World.size_setCell, World.size_drew] at z5 c5 f5
    go_wp2_with fail
    rw [Hx.out, Hy.out]
    refine (M1.out _).mono ?_
    rintro e w11 ⟨rfl, hb11⟩
    have z11 := hb11.size
    have c11 := Below.cells hb11
    have f11 := Below.frozens hb11
    try simp only [World.size_alloc, World.size_setCell, World.size_drew] at z11 c11 f11
    go_wp2_with fail
    refine (M2.out _).mono ?_
    rintro e w12 ⟨rfl, hb12⟩
    have z12 := hb12.size
    have c12 := Below.cells hb12
    have f12 := Below.frozens hb12
    try simp only [World.size_alloc, World.size_setCell, World.size_drew] at z12 c12 f12
    go_wp2_with fail
    refine (add_ok (x * x) (y * y) (x * x + y * y) (Wd.mk u1) (Wd.mk u2) rfl u4 _).mono ?_
    rintro e w13 ⟨rfl, hb13⟩
    have z13 := hb13.size
    have c13 := Below.cells hb13
    have f13 := Below.frozens hb13
    try simp only [World.size_alloc, World.size_setCell, World.size_drew] at z13 c13 f13
    go_wp2_with fail
    refine (M3.out _).mono ?_
    rintro e w14 ⟨rfl, hb14⟩
    have z14 := hb14.size
    have c14 := Below.cells hb14
    have f14 := Below.frozens hb14
    try simp only [World.size_alloc, World.size_setCell, World.size_drew] at z14 c14 f14
    go_wp2_with fail
    refine (M4.out _).mono ?_
    rintro e w15 ⟨rfl, hb15⟩
    have z15 := hb15.size
    have c15 := Below.cells hb15
    have f15 := Below.frozens hb15
    try simp only [World.size_alloc, World.size_setCell, World.size_drew] at z15 c15 f15
    go_wp2_with fail
    refine (add_ok (x * y) (x * y) (x * y + x * y) (Wd.mk u3) (Wd.mk u3) rfl u5 _).mono ?_
    rintro e w16 ⟨rfl, hb16⟩
    have z16 := hb16.size
    have c16 := Below.cells hb16
    have f16 := Below.frozens hb16
    try simp only [World.size_alloc, World.size_setCell, World.size_drew] at z16 c16 f16
    go_wp2_with fail
    refine (add_ok (x * x + y * y) (x * y + x * y) (x * x + y * y + (x * y + x * y)) (Wd.mk u4) (Wd.mk u5) rfl u6 _).mono ?_
    rintro e w17 ⟨rfl, hb17⟩
    have z17 := hb17.size
    have c17 := Below.cells hb17
    have f17 := Below.frozens hb17
    try simp only [World.size_alloc, World.size_setCell, World.size_drew] at z17 c17 f17
    go_wp2_with fail
    refine wp_region_quiet_all (Ext _) (by kernel_rfl) (by kernel_rfl) (Ext.drawn _) ?_
    repeat (first | (refine BigFrame.wpQuiet_skip rfl ?_) | go_big_quiet_step (fail) | (refine BigFrame.wpQuiet_want rfl (fun K hK => ?_); apply Exists.intro; refine ⟨fun w2 h2 => ?_, ?_⟩; (next => (have g1 := Below.cells h2.below; have g2 := Below.frozens h2.below; (try simp only [World.size_alloc, World.size_setCell] at g1 g2); first | (go_simp; (go_at_call 21; refine h2.calls (M5.out _))) | (simp [go_sem, ↓IntWalk.iteOmega, *]; done) | (simp [go_sem, ↓IntWalk.iteOmega, *]; rfl)))); (go_simp; refine hK _ ?_; clear hK K))
    refine wpQuiet_nil ?_
    intro w18 h18
    have hb18 := h18.below
    clear h18
    have z18 := hb18.size
    have c18 := Below.cells hb18
    have f18 := Below.frozens hb18
    try simp only [World.size_alloc, World.size_setCell, World.size_drew] at z18 c18 f18
    go_wp2_with fail
    go_ret
    exact ⟨rfl, (by repeat (first | (with_reducible exact Below.refl _ _) | ((with_reducible refine Below.alloc ?_ ?_ _); rotate_left; (next => ((try dsimp only); (try simp only [World.size_alloc, World.size_setCell, World.size_drew]); omega))) | ((with_reducible refine Below.setCell ?_ ?_ _); rotate_left; (next => ((try dsimp only); (try simp only [World.size_alloc, World.size_setCell, World.size_drew]); omega))) | (with_reducible refine Below.drew ?_) | ((with_reducible refine Below.trans ?_ (Below.mono hb18 ?_)); rotate_left; (next => ((try dsimp only); (try simp only [World.size_alloc, World.size_setCell, World.size_drew]); omega))) | ((with_reducible refine Below.trans ?_ (Below.mono hb17 ?_)); rotate_left; (next => ((try dsimp only); (try simp only [World.size_alloc, World.size_setCell, World.size_drew]); omega))) | ((with_reducible refine Below.trans ?_ (Below.mono hb16 ?_)); rotate_left; (next => ((try dsimp only); (try simp only [World.size_alloc, World.size_setCell, World.size_drew]); omega))) | ((with_reducible refine Below.trans ?_ (Below.mono hb15 ?_)); rotate_left; (next => ((try dsimp only); (try simp only [World.size_alloc, World.size_setCell, World.size_drew]); omega))) | ((with_reducible refine Below.trans ?_ (Below.mono hb14 ?_)); rotate_left; (next => ((try dsimp only); (try simp only [World.size_alloc, World.size_setCell, World.size_drew]); omega))) | ((with_reducible refine Below.trans ?_ (Below.mono hb13 ?_)); rotate_left; (next => ((try dsimp only); (try simp only [World.size_alloc, World.size_setCell, World.size_drew]); omega))) | ((with_reducible refine Below.trans ?_ (Below.mono hb12 ?_)); rotate_left; (next => ((try dsimp only); (try simp only [World.size_alloc, World.size_setCell, World.size_drew]); omega))) | ((with_reducible refine Below.trans ?_ (Below.mono hb11 ?_)); rotate_left; (next => ((try dsimp only); (try simp only [World.size_alloc, World.size_setCell, World.size_drew]); omega))) | ((with_reducible refine Below.trans ?_ (Below.mono hb5 ?_)); rotate_left; (next => ((try dsimp only); (try simp only [World.size_alloc, World.size_setCell, World.size_drew]); omega))) | ((with_reducible refine Below.trans ?_ (Below.mono hb4 ?_)); rotate_left; (next => ((try dsimp only); (try simp only [World.size_alloc, World.size_setCell, World.size_drew]); omega))) | ((with_reducible refine Below.trans ?_ (Below.mono hb3 ?_)); rotate_left; (next => ((try dsimp only); (try simp only [World.size_alloc, World.size_setCell, World.size_drew]); omega))) | ((with_reducible refine Below.trans ?_ (Below.mono hb2 ?_)); rotate_left; (next => ((try dsimp only); (try simp only [World.size_alloc, World.size_setCell, World.size_drew]); omega))) | ((with_reducible refine Below.trans ?_ (Below.mono hb1 ?_)); rotate_left; (next => ((try dsimp only); (try simp only [World.size_alloc, World.size_setCell, World.size_drew]); omega)))))⟩
  · have nb : ¬ 0 < b := by omega
    clear c2
    go_enter Try.func5, Try.ntmps5
    go_wp2_with fail
    refine (mul_any 3 3 9 _ (by unfold U64; omega) (by unfold U64; omega) (by omega)).mono ?_
    rintro e w1 ⟨rfl, hb1⟩
    have z1 := hb1.size
    have c1 := Below.cells hb1
    have f1 := Below.frozens hb1
    try simp only [World.size_alloc, World.size_setCell, World.size_drew] at z1 c1 f1
    go_wp2_with fail
    refine (Hl9.out _).mono ?_
    rintro e w2 ⟨rfl, hb2⟩
    have z2 := hb2.size
    have c2 := Below.cells hb2
    have f2 := Below.frozens hb2
    try simp only [World.size_alloc, World.size_setCell, World.size_drew] at z2 c2 f2
    go_wp2_with fail
    refine (Hmp.out _).mono ?_
    rintro e w3 ⟨rfl, hb3⟩
    have z3 := hb3.size
    have c3 := Below.cells hb3
    have f3 := Below.frozens hb3
    try simp only [World.size_alloc, World.size_setCell, World.size_drew] at z3 c3 f3
    go_wp2_with fail
    refine (Hla.out _).mono ?_
    rintro e w4 ⟨rfl, hb4⟩
    have z4 := hb4.size
    have c4 := Below.cells hb4
    have f4 := Below.frozens hb4
    try simp only [World.size_alloc, World.size_setCell, World.size_drew] at z4 c4 f4
    go_wp2_with fail
    refine (Hlb.out _).mono ?_
    rintro e w5 ⟨rfl, hb5⟩
    have z5 := hb5.size
    have c5 := Below.cells hb5
    have f5 := Below.frozens hb5
    try simp only [World.size_alloc, World.size_setCell, World.size_drew] at z5 c5 f5
    go_wp2_with fail
    rw [Hx.out, Hy.out]
    refine (M1.out _).mono ?_
    rintro e w11 ⟨rfl, hb11⟩
    have z11 := hb11.size
    have c11 := Below.cells hb11
    have f11 := Below.frozens hb11
    try simp only [World.size_alloc, World.size_setCell, World.size_drew] at z11 c11 f11
    go_wp2_with fail
    refine (M2.out _).mono ?_
    rintro e w12 ⟨rfl, hb12⟩
    have z12 := hb12.size
    have c12 := Below.cells hb12
    have f12 := Below.frozens hb12
    try simp only [World.size_alloc, World.size_setCell, World.size_drew] at z12 c12 f12
    go_wp2_with fail
    refine (add_ok (x * x) (y * y) (x * x + y * y) (Wd.mk u1) (Wd.mk u2) rfl u4 _).mono ?_
    rintro e w13 ⟨rfl, hb13⟩
    have z13 := hb13.size
    have c13 := Below.cells hb13
    have f13 := Below.frozens hb13
    try simp only [World.size_alloc, World.size_setCell, World.size_drew] at z13 c13 f13
    go_wp2_with fail
    refine (M3.out _).mono ?_
    rintro e w14 ⟨rfl, hb14⟩
    have z14 := hb14.size
    have c14 := Below.cells hb14
    have f14 := Below.frozens hb14
    try simp only [World.size_alloc, World.size_setCell, World.size_drew] at z14 c14 f14
    go_wp2_with fail
    refine (M4.out _).mono ?_
    rintro e w15 ⟨rfl, hb15⟩
    have z15 := hb15.size
    have c15 := Below.cells hb15
    have f15 := Below.frozens hb15
    try simp only [World.size_alloc, World.size_setCell, World.size_drew] at z15 c15 f15
    go_wp2_with fail
    refine (add_ok (x * y) (x * y) (x * y + x * y) (Wd.mk u3) (Wd.mk u3) rfl u5 _).mono ?_
    rintro e w16 ⟨rfl, hb16⟩
    have z16 := hb16.size
    have c16 := Below.cells hb16
    have f16 := Below.frozens hb16
    try simp only [World.size_alloc, World.size_setCell, World.size_drew] at z16 c16 f16
    go_wp2_with fail
    refine (add_ok (x * x + y * y) (x * y + x * y) (x * x + y * y + (x * y + x * y)) (Wd.mk u4) (Wd.mk u5) rfl u6 _).mono ?_
    rintro e w17 ⟨rfl, hb17⟩
    have z17 := hb17.size
    have c17 := Below.cells hb17
    have f17 := Below.frozens hb17
    try simp only [World.size_alloc, World.size_setCell, World.size_drew] at z17 c17 f17
    go_wp2_with fail
    refine wp_region_quiet_all (Ext _) (by kernel_rfl) (by kernel_rfl) (Ext.drawn _) ?_
    repeat (first | (refine BigFrame.wpQuiet_skip rfl ?_) | go_big_quiet_step (fail) | (refine BigFrame.wpQuiet_want rfl (fun K hK => ?_); apply Exists.intro; refine ⟨fun w2 h2 => ?_, ?_⟩; (next => (have g1 := Below.cells h2.below; have g2 := Below.frozens h2.below; (try simp only [World.size_alloc, World.size_setCell] at g1 g2); first | (go_simp; (go_at_call 21; refine h2.calls (M5.out _))) | (simp [go_sem, ↓IntWalk.iteOmega, *]; done) | (simp [go_sem, ↓IntWalk.iteOmega, *]; rfl)))); (go_simp; refine hK _ ?_; clear hK K))
    refine wpQuiet_nil ?_
    intro w18 h18
    have hb18 := h18.below
    clear h18
    have z18 := hb18.size
    have c18 := Below.cells hb18
    have f18 := Below.frozens hb18
    try simp only [World.size_alloc, World.size_setCell, World.size_drew] at z18 c18 f18
    go_wp2_with fail
    go_ret
    exact ⟨rfl, (by repeat (first | (with_reducible exact Below.refl _ _) | ((with_reducible refine Below.alloc ?_ ?_ _); rotate_left; (next => ((try dsimp only); (try simp only [World.size_alloc, World.size_setCell, World.size_drew]); omega))) | ((with_reducible refine Below.setCell ?_ ?_ _); rotate_left; (next => ((try dsimp only); (try simp only [World.size_alloc, World.size_setCell, World.size_drew]); omega))) | (with_reducible refine Below.drew ?_) | ((with_reducible refine Below.trans ?_ (Below.mono hb18 ?_)); rotate_left; (next => ((try dsimp only); (try simp only [World.size_alloc, World.size_setCell, World.size_drew]); omega))) | ((with_reducible refine Below.trans ?_ (Below.mono hb17 ?_)); rotate_left; (next => ((try dsimp only); (try simp only [World.size_alloc, World.size_setCell, World.size_drew]); omega))) | ((with_reducible refine Below.trans ?_ (Below.mono hb16 ?_)); rotate_left; (next => ((try dsimp only); (try simp only [World.size_alloc, World.size_setCell, World.size_drew]); omega))) | ((with_reducible refine Below.trans ?_ (Below.mono hb15 ?_)); rotate_left; (next => ((try dsimp only); (try simp only [World.size_alloc, World.size_setCell, World.size_drew]); omega))) | ((with_reducible refine Below.trans ?_ (Below.mono hb14 ?_)); rotate_left; (next => ((try dsimp only); (try simp only [World.size_alloc, World.size_setCell, World.size_drew]); omega))) | ((with_reducible refine Below.trans ?_ (Below.mono hb13 ?_)); rotate_left; (next => ((try dsimp only); (try simp only [World.size_alloc, World.size_setCell, World.size_drew]); omega))) | ((with_reducible refine Below.trans ?_ (Below.mono hb12 ?_)); rotate_left; (next => ((try dsimp only); (try simp only [World.size_alloc, World.size_setCell, World.size_drew]); omega))) | ((with_reducible refine Below.trans ?_ (Below.mono hb11 ?_)); rotate_left; (next => ((try dsimp only); (try simp only [World.size_alloc, World.size_setCell, World.size_drew]); omega))) | ((with_reducible refine Below.trans ?_ (Below.mono hb5 ?_)); rotate_left; (next => ((try dsimp only); (try simp only [World.size_alloc, World.size_setCell, World.size_drew]); omega))) | ((with_reducible refine Below.trans ?_ (Below.mono hb4 ?_)); rotate_left; (next => ((try dsimp only); (try simp only [World.size_alloc, World.size_setCell, World.size_drew]); omega))) | ((with_reducible refine Below.trans ?_ (Below.mono hb3 ?_)); rotate_left; (next => ((try dsimp only); (try simp only [World.size_alloc, World.size_setCell, World.size_drew]); omega))) | ((with_reducible refine Below.trans ?_ (Below.mono hb2 ?_)); rotate_left; (next => ((try dsimp only); (try simp only [World.size_alloc, World.size_setCell, World.size_drew]); omega))) | ((with_reducible refine Below.trans ?_ (Below.mono hb1 ?_)); rotate_left; (next => ((try dsimp only); (try simp only [World.size_alloc, World.size_setCell, World.size_drew]); omega)))))⟩
  · have nn : (N != L + M) = false := by simp; omega
    clear c3
    go_enter Try.func5, Try.ntmps5
    go_wp2_with fail
    refine (mul_any 3 3 9 _ (by unfold U64; omega) (by unfold U64; omega) (by omega)).mono ?_
    rintro e w1 ⟨rfl, hb1⟩
    have z1 := hb1.size
    have c1 := Below.cells hb1
    have f1 := Below.frozens hb1
    try simp only [World.size_alloc, World.size_setCell, World.size_drew] at z1 c1 f1
    go_wp2_with fail
    refine (Hl9.out _).mono ?_
    rintro e w2 ⟨rfl, hb2⟩
    have z2 := hb2.size
    have c2 := Below.cells hb2
    have f2 := Below.frozens hb2
    try simp only [World.size_alloc, World.size_setCell, World.size_drew] at z2 c2 f2
    go_wp2_with fail
    refine (Hmp.out _).mono ?_
    rintro e w3 ⟨rfl, hb3⟩
    have z3 := hb3.size
    have c3 := Below.cells hb3
    have f3 := Below.frozens hb3
    try simp only [World.size_alloc, World.size_setCell, World.size_drew] at z3 c3 f3
    go_wp2_with fail
    refine (Hla.out _).mono ?_
    rintro e w4 ⟨rfl, hb4⟩
    have z4 := hb4.size
    have c4 := Below.cells hb4
    have f4 := Below.frozens hb4
    try simp only [World.size_alloc, World.size_setCell, World.size_drew] at z4 c4 f4
    go_wp2_with fail
    refine (Hlb.out _).mono ?_
    rintro e w5 ⟨rfl, hb5⟩
    have z5 := hb5.size
    have c5 := Below.cells hb5
    have f5 := Below.frozens hb5
    try simp only [World.size_alloc, World.size_setCell, World.size_drew] at z5 c5 f5
    go_wp2_with fail
    refine (Hlp.out _).mono ?_
    rintro e w6 ⟨rfl, hb6⟩
    have z6 := hb6.size
    have c6 := Below.cells hb6
    have f6 := Below.frozens hb6
    try simp only [World.size_alloc, World.size_setCell, World.size_drew] at z6 c6 f6
    go_wp2_with fail
    rw [Hx.out, Hy.out]
    refine (M1.out _).mono ?_
    rintro e w11 ⟨rfl, hb11⟩
    have z11 := hb11.size
    have c11 := Below.cells hb11
    have f11 := Below.frozens hb11
    try simp only [World.size_alloc, World.size_setCell, World.size_drew] at z11 c11 f11
    go_wp2_with fail
    refine (M2.out _).mono ?_
    rintro e w12 ⟨rfl, hb12⟩
    have z12 := hb12.size
    have c12 := Below.cells hb12
    have f12 := Below.frozens hb12
    try simp only [World.size_alloc, World.size_setCell, World.size_drew] at z12 c12 f12
    go_wp2_with fail
    refine (add_ok (x * x) (y * y) (x * x + y * y) (Wd.mk u1) (Wd.mk u2) rfl u4 _).mono ?_
    rintro e w13 ⟨rfl, hb13⟩
    have z13 := hb13.size
    have c13 := Below.cells hb13
    have f13 := Below.frozens hb13
    try simp only [World.size_alloc, World.size_setCell, World.size_drew] at z13 c13 f13
    go_wp2_with fail
    refine (M3.out _).mono ?_
    rintro e w14 ⟨rfl, hb14⟩
    have z14 := hb14.size
    have c14 := Below.cells hb14
    have f14 := Below.frozens hb14
    try simp only [World.size_alloc, World.size_setCell, World.size_drew] at z14 c14 f14
    go_wp2_with fail
    refine (M4.out _).mono ?_
    rintro e w15 ⟨rfl, hb15⟩
    have z15 := hb15.size
    have c15 := Below.cells hb15
    have f15 := Below.frozens hb15
    try simp only [World.size_alloc, World.size_setCell, World.size_drew] at z15 c15 f15
    go_wp2_with fail
    refine (add_ok (x * y) (x * y) (x * y + x * y) (Wd.mk u3) (Wd.mk u3) rfl u5 _).mono ?_
    rintro e w16 ⟨rfl, hb16⟩
    have z16 := hb16.size
    have c16 := Below.cells hb16
    have f16 := Below.frozens hb16
    try simp only [World.size_alloc, World.size_setCell, World.size_drew] at z16 c16 f16
    go_wp2_with fail
    refine (add_ok (x * x + y * y) (x * y + x * y) (x * x + y * y + (x * y + x * y)) (Wd.mk u4) (Wd.mk u5) rfl u6 _).mono ?_
    rintro e w17 ⟨rfl, hb17⟩
    have z17 := hb17.size
    have c17 := Below.cells hb17
    have f17 := Below.frozens hb17
    try simp only [World.size_alloc, World.size_setCell, World.size_drew] at z17 c17 f17
    go_wp2_with fail
    refine wp_region_quiet_all (Ext _) (by kernel_rfl) (by kernel_rfl) (Ext.drawn _) ?_
    repeat (first | (refine BigFrame.wpQuiet_skip rfl ?_) | go_big_quiet_step (fail) | (refine BigFrame.wpQuiet_want rfl (fun K hK => ?_); apply Exists.intro; refine ⟨fun w2 h2 => ?_, ?_⟩; (next => (have g1 := Below.cells h2.below; have g2 := Below.frozens h2.below; (try simp only [World.size_alloc, World.size_setCell] at g1 g2); first | (go_simp; (go_at_call 21; refine h2.calls (M5.out _))) | (simp [go_sem, ↓IntWalk.iteOmega, *]; done) | (simp [go_sem, ↓IntWalk.iteOmega, *]; rfl)))); (go_simp; refine hK _ ?_; clear hK K))
    refine wpQuiet_nil ?_
    intro w18 h18
    have hb18 := h18.below
    clear h18
    have z18 := hb18.size
    have c18 := Below.cells hb18
    have f18 := Below.frozens hb18
    try simp only [World.size_alloc, World.size_setCell, World.size_drew] at z18 c18 f18
    go_wp2_with fail
    go_ret
    exact ⟨rfl, (by repeat (first | (with_reducible exact Below.refl _ _) | ((with_reducible refine Below.alloc ?_ ?_ _); rotate_left; (next => ((try dsimp only); (try simp only [World.size_alloc, World.size_setCell, World.size_drew]); omega))) | ((with_reducible refine Below.setCell ?_ ?_ _); rotate_left; (next => ((try dsimp only); (try simp only [World.size_alloc, World.size_setCell, World.size_drew]); omega))) | (with_reducible refine Below.drew ?_) | ((with_reducible refine Below.trans ?_ (Below.mono hb18 ?_)); rotate_left; (next => ((try dsimp only); (try simp only [World.size_alloc, World.size_setCell, World.size_drew]); omega))) | ((with_reducible refine Below.trans ?_ (Below.mono hb17 ?_)); rotate_left; (next => ((try dsimp only); (try simp only [World.size_alloc, World.size_setCell, World.size_drew]); omega))) | ((with_reducible refine Below.trans ?_ (Below.mono hb16 ?_)); rotate_left; (next => ((try dsimp only); (try simp only [World.size_alloc, World.size_setCell, World.size_drew]); omega))) | ((with_reducible refine Below.trans ?_ (Below.mono hb15 ?_)); rotate_left; (next => ((try dsimp only); (try simp only [World.size_alloc, World.size_setCell, World.size_drew]); omega))) | ((with_reducible refine Below.trans ?_ (Below.mono hb14 ?_)); rotate_left; (next => ((try dsimp only); (try simp only [World.size_alloc, World.size_setCell, World.size_drew]); omega))) | ((with_reducible refine Below.trans ?_ (Below.mono hb13 ?_)); rotate_left; (next => ((try dsimp only); (try simp only [World.size_alloc, World.size_setCell, World.size_drew]); omega))) | ((with_reducible refine Below.trans ?_ (Below.mono hb12 ?_)); rotate_left; (next => ((try dsimp only); (try simp only [World.size_alloc, World.size_setCell, World.size_drew]); omega))) | ((with_reducible refine Below.trans ?_ (Below.mono hb11 ?_)); rotate_left; (next => ((try dsimp only); (try simp only [World.size_alloc, World.size_setCell, World.size_drew]); omega))) | ((with_reducible refine Below.trans ?_ (Below.mono hb6 ?_)); rotate_left; (next => ((try dsimp only); (try simp only [World.size_alloc, World.size_setCell, World.size_drew]); omega))) | ((with_reducible refine Below.trans ?_ (Below.mono hb5 ?_)); rotate_left; (next => ((try dsimp only); (try simp only [World.size_alloc, World.size_setCell, World.size_drew]); omega))) | ((with_reducible refine Below.trans ?_ (Below.mono hb4 ?_)); rotate_left; (next => ((try dsimp only); (try simp only [World.size_alloc, World.size_setCell, World.size_drew]); omega))) | ((with_reducible refine Below.trans ?_ (Below.mono hb3 ?_)); rotate_left; (next => ((try dsimp only); (try simp only [World.size_alloc, World.size_setCell, World.size_drew]); omega))) | ((with_reducible refine Below.trans ?_ (Below.mono hb2 ?_)); rotate_left; (next => ((try dsimp only); (try simp only [World.size_alloc, World.size_setCell, World.size_drew]); omega))) | ((with_reducible refine Below.trans ?_ (Below.mono hb1 ?_)); rotate_left; (next => ((try dsimp only); (try simp only [World.size_alloc, World.size_setCell, World.size_drew]); omega)))))⟩
  · have nn : (N != L + M) = true := by simp; omega
    have n1 : (N != L + M - 1) = false := by simp; omega
    clear c3
    go_enter Try.func5, Try.ntmps5
    go_wp2_with fail
    refine (mul_any 3 3 9 _ (by unfold U64; omega) (by unfold U64; omega) (by omega)).mono ?_
    rintro e w1 ⟨rfl, hb1⟩
    have z1 := hb1.size
    have c1 := Below.cells hb1
    have f1 := Below.frozens hb1
    try simp only [World.size_alloc, World.size_setCell, World.size_drew] at z1 c1 f1
    go_wp2_with fail
    refine (Hl9.out _).mono ?_
    rintro e w2 ⟨rfl, hb2⟩
    have z2 := hb2.size
    have c2 := Below.cells hb2
    have f2 := Below.frozens hb2
    try simp only [World.size_alloc, World.size_setCell, World.size_drew] at z2 c2 f2
    go_wp2_with fail
    refine (Hmp.out _).mono ?_
    rintro e w3 ⟨rfl, hb3⟩
    have z3 := hb3.size
    have c3 := Below.cells hb3
    have f3 := Below.frozens hb3
    try simp only [World.size_alloc, World.size_setCell, World.size_drew] at z3 c3 f3
    go_wp2_with fail
    refine (Hla.out _).mono ?_
    rintro e w4 ⟨rfl, hb4⟩
    have z4 := hb4.size
    have c4 := Below.cells hb4
    have f4 := Below.frozens hb4
    try simp only [World.size_alloc, World.size_setCell, World.size_drew] at z4 c4 f4
    go_wp2_with fail
    refine (Hlb.out _).mono ?_
    rintro e w5 ⟨rfl, hb5⟩
    have z5 := hb5.size
    have c5 := Below.cells hb5
    have f5 := Below.frozens hb5
    try simp only [World.size_alloc, World.size_setCell, World.size_drew] at z5 c5 f5
    go_wp2_with fail
    refine (Hlp.out _).mono ?_
    rintro e w6 ⟨rfl, hb6⟩
    have z6 := hb6.size
    have c6 := Below.cells hb6
    have f6 := Below.frozens hb6
    try simp only [World.size_alloc, World.size_setCell, World.size_drew] at z6 c6 f6
    go_wp2_with fail
    refine (Hlp.out _).mono ?_
    rintro e w7 ⟨rfl, hb7⟩
    have z7 := hb7.size
    have c7 := Below.cells hb7
    have f7 := Below.frozens hb7
    try simp only [World.size_alloc, World.size_setCell, World.size_drew] at z7 c7 f7
    go_wp2_with fail
    rw [Hx.out, Hy.out]
    refine (M1.out _).mono ?_
    rintro e w11 ⟨rfl, hb11⟩
    have z11 := hb11.size
    have c11 := Below.cells hb11
    have f11 := Below.frozens hb11
    try simp only [World.size_alloc, World.size_setCell, World.size_drew] at z11 c11 f11
    go_wp2_with fail
    refine (M2.out _).mono ?_
    rintro e w12 ⟨rfl, hb12⟩
    have z12 := hb12.size
    have c12 := Below.cells hb12
    have f12 := Below.frozens hb12
    try simp only [World.size_alloc, World.size_setCell, World.size_drew] at z12 c12 f12
    go_wp2_with fail
    refine (add_ok (x * x) (y * y) (x * x + y * y) (Wd.mk u1) (Wd.mk u2) rfl u4 _).mono ?_
    rintro e w13 ⟨rfl, hb13⟩
    have z13 := hb13.size
    have c13 := Below.cells hb13
    have f13 := Below.frozens hb13
    try simp only [World.size_alloc, World.size_setCell, World.size_drew] at z13 c13 f13
    go_wp2_with fail
    refine (M3.out _).mono ?_
    rintro e w14 ⟨rfl, hb14⟩
    have z14 := hb14.size
    have c14 := Below.cells hb14
    have f14 := Below.frozens hb14
    try simp only [World.size_alloc, World.size_setCell, World.size_drew] at z14 c14 f14
    go_wp2_with fail
    refine (M4.out _).mono ?_
    rintro e w15 ⟨rfl, hb15⟩
    have z15 := hb15.size
    have c15 := Below.cells hb15
    have f15 := Below.frozens hb15
    try simp only [World.size_alloc, World.size_setCell, World.size_drew] at z15 c15 f15
    go_wp2_with fail
    refine (add_ok (x * y) (x * y) (x * y + x * y) (Wd.mk u3) (Wd.mk u3) rfl u5 _).mono ?_
    rintro e w16 ⟨rfl, hb16⟩
    have z16 := hb16.size
    have c16 := Below.cells hb16
    have f16 := Below.frozens hb16
    try simp only [World.size_alloc, World.size_setCell, World.size_drew] at z16 c16 f16
    go_wp2_with fail
    refine (add_ok (x * x + y * y) (x * y + x * y) (x * x + y * y + (x * y + x * y)) (Wd.mk u4) (Wd.mk u5) rfl u6 _).mono ?_
    rintro e w17 ⟨rfl, hb17⟩
    have z17 := hb17.size
    have c17 := Below.cells hb17
    have f17 := Below.frozens hb17
    try simp only [World.size_alloc, World.size_setCell, World.size_drew] at z17 c17 f17
    go_wp2_with fail
    refine wp_region_quiet_all (Ext _) (by kernel_rfl) (by kernel_rfl) (Ext.drawn _) ?_
    repeat (first | (refine BigFrame.wpQuiet_skip rfl ?_) | go_big_quiet_step (fail) | (refine BigFrame.wpQuiet_want rfl (fun K hK => ?_); apply Exists.intro; refine ⟨fun w2 h2 => ?_, ?_⟩; (next => (have g1 := Below.cells h2.below; have g2 := Below.frozens h2.below; (try simp only [World.size_alloc, World.size_setCell] at g1 g2); first | (go_simp; (go_at_call 21; refine h2.calls (M5.out _))) | (simp [go_sem, ↓IntWalk.iteOmega, *]; done) | (simp [go_sem, ↓IntWalk.iteOmega, *]; rfl)))); (go_simp; refine hK _ ?_; clear hK K))
    refine wpQuiet_nil ?_
    intro w18 h18
    have hb18 := h18.below
    clear h18
    have z18 := hb18.size
    have c18 := Below.cells hb18
    have f18 := Below.frozens hb18
    try simp only [World.size_alloc, World.size_setCell, World.size_drew] at z18 c18 f18
    go_wp2_with fail
    go_ret
    exact ⟨rfl, (by repeat (first | (with_reducible exact Below.refl _ _) | ((with_reducible refine Below.alloc ?_ ?_ _); rotate_left; (next => ((try dsimp only); (try simp only [World.size_alloc, World.size_setCell, World.size_drew]); omega))) | ((with_reducible refine Below.setCell ?_ ?_ _); rotate_left; (next => ((try dsimp only); (try simp only [World.size_alloc, World.size_setCell, World.size_drew]); omega))) | (with_reducible refine Below.drew ?_) | ((with_reducible refine Below.trans ?_ (Below.mono hb18 ?_)); rotate_left; (next => ((try dsimp only); (try simp only [World.size_alloc, World.size_setCell, World.size_drew]); omega))) | ((with_reducible refine Below.trans ?_ (Below.mono hb17 ?_)); rotate_left; (next => ((try dsimp only); (try simp only [World.size_alloc, World.size_setCell, World.size_drew]); omega))) | ((with_reducible refine Below.trans ?_ (Below.mono hb16 ?_)); rotate_left; (next => ((try dsimp only); (try simp only [World.size_alloc, World.size_setCell, World.size_drew]); omega))) | ((with_reducible refine Below.trans ?_ (Below.mono hb15 ?_)); rotate_left; (next => ((try dsimp only); (try simp only [World.size_alloc, World.size_setCell, World.size_drew]); omega))) | ((with_reducible refine Below.trans ?_ (Below.mono hb14 ?_)); rotate_left; (next => ((try dsimp only); (try simp only [World.size_alloc, World.size_setCell, World.size_drew]); omega))) | ((with_reducible refine Below.trans ?_ (Below.mono hb13 ?_)); rotate_left; (next => ((try dsimp only); (try simp only [World.size_alloc, World.size_setCell, World.size_drew]); omega))) | ((with_reducible refine Below.trans ?_ (Below.mono hb12 ?_)); rotate_left; (next => ((try dsimp only); (try simp only [World.size_alloc, World.size_setCell, World.size_drew]); omega))) | ((with_reducible refine Below.trans ?_ (Below.mono hb11 ?_)); rotate_left; (next => ((try dsimp only); (try simp only [World.size_alloc, World.size_setCell, World.size_drew]); omega))) | ((with_reducible refine Below.trans ?_ (Below.mono hb7 ?_)); rotate_left; (next => ((try dsimp only); (try simp only [World.size_alloc, World.size_setCell, World.size_drew]); omega))) | ((with_reducible refine Below.trans ?_ (Below.mono hb6 ?_)); rotate_left; (next => ((try dsimp only); (try simp only [World.size_alloc, World.size_setCell, World.size_drew]); omega))) | ((with_reducible refine Below.trans ?_ (Below.mono hb5 ?_)); rotate_left; (next => ((try dsimp only); (try simp only [World.size_alloc, World.size_setCell, World.size_drew]); omega))) | ((with_reducible refine Below.trans ?_ (Below.mono hb4 ?_)); rotate_left; (next => ((try dsimp only); (try simp only [World.size_alloc, World.size_setCell, World.size_drew]); omega))) | ((with_reducible refine Below.trans ?_ (Below.mono hb3 ?_)); rotate_left; (next => ((try dsimp only); (try simp only [World.size_alloc, World.size_setCell, World.size_drew]); omega))) | ((with_reducible refine Below.trans ?_ (Below.mono hb2 ?_)); rotate_left; (next => ((try dsimp only); (try simp only [World.size_alloc, World.size_setCell, World.size_drew]); omega))) | ((with_reducible refine Below.trans ?_ (Below.mono hb1 ?_)); rotate_left; (next => ((try dsimp only); (try simp only [World.size_alloc, World.size_setCell, World.size_drew]); omega)))))⟩
end Go.Proofs.Ytnkeimpnnpndcaa

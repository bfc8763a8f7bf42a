import Derived.Test.YtgiipelonojgaaaRoot
import Derived.Test.YtgiipelonojgaaaW3
set_option linter.unusedSimpArgs false
set_option linter.unusedVariables false
namespace Go.Proofs.Ytgiipelonojgaaa
open Go.RowKit

set_option maxRecDepth 100000 in
set_option maxHeartbeats 8000000 in
theorem rootIs_walk (a b n : Int) (w : World) (ha : U128 a) (hb : U128 b) (hn : (Lit.int .u64 n).wf = true) :
    Calls Try.prog 13 #[.agg #[.int .u64 (hi a), .int .u64 (lo a)], .agg #[.int .u64 (hi b), .int .u64 (lo b)], .int .u64 n] w fun e w' =>
      e = .returned (.bool true) ∧ Below w.heap.size w w' := by
  have N99 := Lib.hid (fun w => num_any 99 w (by omega) (by omega))
  have N100 := Lib.hid (fun w => num_any 100 w (by omega) (by omega))
  have R99 := Lib.hid (fun w => root_ok 99 9 (Wd.lit (by unfold U64; omega)) (by unfold IsRoot; omega) w)
  have R100 := Lib.hid (fun w => root_ok 100 10 (Wd.lit (by unfold U64; omega)) (by unfold IsRoot; omega) w)
  have un := u64_wf hn
  obtain ⟨r, hr⟩ := isRoot_ex a ha.1
  obtain ⟨s, hs⟩ := isRoot_ex b hb.1
  have ru := isRoot_u64 hr ha
  have ra := Lib.hid (fun w => root_ok a r (Wd.mk ha) hr w)
  have rb := Lib.hid (fun w => root_ok b s (Wd.mk hb) hs w)
  have unn := u64_mul_nonneg un un
  have hmn := Lib.hid (fun w => mul_any n n (n * n) w un un rfl)
  have rn := Lib.hid (fun w => root_ok (n * n) n (Wd.mk unn) (isRoot_sq un.1) w)
  have ur : U64 r := by have := hr.1; unfold U64; omega
  have urr := u64_mul_nonneg ur ur
  have hr2 := hr.2.1
  obtain ⟨R, hR⟩ : ∃ R, r * r = R := ⟨_, rfl⟩
  rw [hR] at urr hr2
  have hmr := Lib.hid (fun w => mul_any r r R w ur ur hR)
  have hc1 : ∃ z : Int, ¬ 0 < z ∧ ∀ w, Calls Try.prog 23 #[.agg #[.int .u64 (hi R), .int .u64 (lo R)], .agg #[.int .u64 (hi a), .int .u64 (lo a)]] w fun e w' => e = .returned (.int .i64 z) ∧ Below w.heap.size w w' := by
    rcases Int.lt_or_le R a with c | c
    · exact ⟨-1, by omega, fun w => cmp_lt R a (Wd.mk urr) (Wd.mk ha) c w⟩
    · have e : R = a := by omega
      rw [e]
      exact ⟨0, by omega, fun w => cmp_eq a (Wd.mk ha) (Wd.mk ha) w⟩
  obtain ⟨z1, hz1, hc1⟩ := hc1
  have hzd1 : decide (0 < z1) = false := by simpa using hz1
  have hcb : (∃ z : Int, 0 < z ∧ ∀ w, Calls Try.prog 23 #[.agg #[.int .u64 (hi a), .int .u64 (lo a)], .agg #[.int .u64 (hi b), .int .u64 (lo b)]] w fun e w' => e = .returned (.int .i64 z) ∧ Below w.heap.size w w') ∨
      (r ≤ s ∧ ∃ z : Int, ¬ 0 < z ∧ ∀ w, Calls Try.prog 23 #[.agg #[.int .u64 (hi a), .int .u64 (lo a)], .agg #[.int .u64 (hi b), .int .u64 (lo b)]] w fun e w' => e = .returned (.int .i64 z) ∧ Below w.heap.size w w') := by
    rcases Int.lt_trichotomy a b with c | c | c
    · exact .inr ⟨isRoot_mono hr hs (by omega), -1, by omega, fun w => cmp_lt a b (Wd.mk ha) (Wd.mk hb) c w⟩
    · subst c; exact .inr ⟨isRoot_mono hr hs (by omega), 0, by omega, fun w => cmp_eq a (Wd.mk ha) (Wd.mk ha) w⟩
    · exact .inl ⟨1, by omega, fun w => cmp_gt a b (Wd.mk ha) (Wd.mk hb) c w⟩
  have hnx : ((r < 18446744073709551615) ∧ (∀ w, Calls Try.prog 58 #[.int .u64 (r + 1), .int .u64 (r + 1)] w fun e w' => e = .returned (.agg #[.int .u64 (hi ((r + 1) * (r + 1))), .int .u64 (lo ((r + 1) * (r + 1)))]) ∧ Below w.heap.size w w') ∧
      ∃ z : Int, ¬ z ≤ 0 ∧ ∀ w, Calls Try.prog 23 #[.agg #[.int .u64 (hi ((r + 1) * (r + 1))), .int .u64 (lo ((r + 1) * (r + 1)))], .agg #[.int .u64 (hi a), .int .u64 (lo a)]] w fun e w' => e = .returned (.int .i64 z) ∧ Below w.heap.size w w') ∨ ¬ r < 18446744073709551615 := by
    by_cases c : r < 18446744073709551615
    · have u1 : U64 (r + 1) := by unfold U64 at *; omega
      exact .inl ⟨c, fun w => mul_any (r + 1) (r + 1) _ w u1 u1 rfl, 1, by omega, fun w => cmp_gt _ a (Wd.mk (u64_mul_nonneg u1 u1)) (Wd.mk ha) hr.2.2 w⟩
    · exact .inr c
  have HC1 := Lib.hid hc1
  have r0 := hr.1
  have s0 := hs.1
  have qa := alloc_cells
  have qf := alloc_frozens
  clear hc1 hr hs hn un unn ur urr hr2 hR ha hb
  rcases hnx with ⟨hx, hm1, z2, hz2, hc2⟩ | hx
  · have HM1 := Lib.hid hm1
    have HC2 := Lib.hid hc2
    have hzd2 : decide (z2 ≤ 0) = false := by simpa using hz2
    have e1 : IntKind.u64.wrap (r + 1) = r + 1 := by rw [IntKind.wrap_u64]; omega
    have hxd : decide (r < 18446744073709551615) = true := by simpa using hx
    clear hm1 hc2
    rcases hcb with ⟨z3, hz3, hc3⟩ | ⟨hrs, z3, hz3, hc3⟩
    · have HC3 := Lib.hid hc3
      have hzd3 : decide (0 < z3) = true := by simpa using hz3
      clear hc3
      go_enter Try.func13, Try.ntmps13
      go_wp2_with fail
      refine (N99.out _).mono ?_
      rintro e w1 ⟨rfl, hb1⟩
      have z1 := hb1.size
      have c1 := Below.cells hb1
      have f1 := Below.frozens hb1
      try simp only [World.size_alloc, World.size_setCell, World.size_drew] at z1 c1 f1
      go_wp2_with fail
      refine (R99.out _).mono ?_
      rintro e w2 ⟨rfl, hb2⟩
      have z2 := hb2.size
      have c2 := Below.cells hb2
      have f2 := Below.frozens hb2
      try simp only [World.size_alloc, World.size_setCell, World.size_drew] at z2 c2 f2
      go_wp2_with fail
      refine (N100.out _).mono ?_
      rintro e w3 ⟨rfl, hb3⟩
      have z3 := hb3.size
      have c3 := Below.cells hb3
      have f3 := Below.frozens hb3
      try simp only [World.size_alloc, World.size_setCell, World.size_drew] at z3 c3 f3
      go_wp2_with fail
      refine (R100.out _).mono ?_
      rintro e w4 ⟨rfl, hb4⟩
      have z4 := hb4.size
      have c4 := Below.cells hb4
      have f4 := Below.frozens hb4
      try simp only [World.size_alloc, World.size_setCell, World.size_drew] at z4 c4 f4
      go_wp2_with fail
      refine (ra.out _).mono ?_
      rintro e w5 ⟨rfl, hb5⟩
      have z5 := hb5.size
      have c5 := Below.cells hb5
      have f5 := Below.frozens hb5
      try simp only [World.size_alloc, World.size_setCell, World.size_drew] at z5 c5 f5
      go_wp2_with fail
      refine wp_region_quiet_all (Ext _) (by kernel_rfl) (by kernel_rfl) (Ext.drawn _) ?_
      repeat (first | go_big_quiet_skip | go_big_quiet_step (fail) | (refine BigFrame.wpQuiet_want rfl (fun K hK => ?_); apply Exists.intro; refine ⟨fun w2 h2 => ?_, ?_⟩; (next => (have g1 := Below.cells h2.below; have g2 := Below.frozens h2.below; (try simp only [World.size_alloc, World.size_setCell] at g1 g2); first | (go_simp; (first | (go_at_call 58; first | (with_reducible refine h2.calls (hmr.out _)) | (with_reducible refine h2.calls (HM1.out _))) | (go_at_call 23; first | (with_reducible refine h2.calls (HC1.out _)) | (with_reducible refine h2.calls (HC2.out _))))) | (simp [go_sem, ↓IntWalk.iteOmega, *]; done) | (simp [go_sem, ↓IntWalk.iteOmega, *]; rfl)))); (go_simp; refine hK _ ?_; clear hK K))
      refine wpQuiet_nil ?_
      intro w6 h6
      have hb6 := h6.below
      clear h6
      have z6 := hb6.size
      have c6 := Below.cells hb6
      have f6 := Below.frozens hb6
      try simp only [World.size_alloc, World.size_setCell, World.size_drew] at z6 c6 f6
      go_wp2_with fail
      refine (hmn.out _).mono ?_
      rintro e w7 ⟨rfl, hb7⟩
      have z7 := hb7.size
      have c7 := Below.cells hb7
      have f7 := Below.frozens hb7
      try simp only [World.size_alloc, World.size_setCell, World.size_drew] at z7 c7 f7
      go_wp2_with fail
      refine (rn.out _).mono ?_
      rintro e w8 ⟨rfl, hb8⟩
      have z8 := hb8.size
      have c8 := Below.cells hb8
      have f8 := Below.frozens hb8
      try simp only [World.size_alloc, World.size_setCell, World.size_drew] at z8 c8 f8
      go_wp2_with fail
      refine (HC3.out _).mono ?_
      rintro e w9 ⟨rfl, hb9⟩
      have z9 := hb9.size
      have c9 := Below.cells hb9
      have f9 := Below.frozens hb9
      try simp only [World.size_alloc, World.size_setCell, World.size_drew] at z9 c9 f9
      go_wp2_with fail
      go_ret
      exact ⟨rfl, (by repeat (first | (with_reducible exact Below.refl _ _) | ((with_reducible refine Below.alloc ?_ ?_ _); rotate_left; (next => ((try dsimp only); (try simp only [World.size_alloc, World.size_setCell, World.size_drew]); omega))) | ((with_reducible refine Below.setCell ?_ ?_ _); rotate_left; (next => ((try dsimp only); (try simp only [World.size_alloc, World.size_setCell, World.size_drew]); omega))) | (with_reducible refine Below.drew ?_) | ((with_reducible refine Below.trans ?_ (Below.mono hb9 ?_)); rotate_left; (next => ((try dsimp only); (try simp only [World.size_alloc, World.size_setCell, World.size_drew]); omega))) | ((with_reducible refine Below.trans ?_ (Below.mono hb8 ?_)); rotate_left; (next => ((try dsimp only); (try simp only [World.size_alloc, World.size_setCell, World.size_drew]); omega))) | ((with_reducible refine Below.trans ?_ (Below.mono hb7 ?_)); rotate_left; (next => ((try dsimp only); (try simp only [World.size_alloc, World.size_setCell, World.size_drew]); omega))) | ((with_reducible refine Below.trans ?_ (Below.mono hb6 ?_)); rotate_left; (next => ((try dsimp only); (try simp only [World.size_alloc, World.size_setCell, World.size_drew]); omega))) | ((with_reducible refine Below.trans ?_ (Below.mono hb5 ?_)); rotate_left; (next => ((try dsimp only); (try simp only [World.size_alloc, World.size_setCell, World.size_drew]); omega))) | ((with_reducible refine Below.trans ?_ (Below.mono hb4 ?_)); rotate_left; (next => ((try dsimp only); (try simp only [World.size_alloc, World.size_setCell, World.size_drew]); omega))) | ((with_reducible refine Below.trans ?_ (Below.mono hb3 ?_)); rotate_left; (next => ((try dsimp only); (try simp only [World.size_alloc, World.size_setCell, World.size_drew]); omega))) | ((with_reducible refine Below.trans ?_ (Below.mono hb2 ?_)); rotate_left; (next => ((try dsimp only); (try simp only [World.size_alloc, World.size_setCell, World.size_drew]); omega))) | ((with_reducible refine Below.trans ?_ (Below.mono hb1 ?_)); rotate_left; (next => ((try dsimp only); (try simp only [World.size_alloc, World.size_setCell, World.size_drew]); omega)))))⟩
    · have hrd : decide (_ ≤ s) = true := decide_eq_true hrs
      have HC3 := Lib.hid hc3
      have hzd3 : decide (0 < z3) = false := by simpa using hz3
      clear hc3
      go_enter Try.func13, Try.ntmps13
      go_wp2_with fail
      refine (N99.out _).mono ?_
      rintro e w1 ⟨rfl, hb1⟩
      have z1 := hb1.size
      have c1 := Below.cells hb1
      have f1 := Below.frozens hb1
      try simp only [World.size_alloc, World.size_setCell, World.size_drew] at z1 c1 f1
      go_wp2_with fail
      refine (R99.out _).mono ?_
      rintro e w2 ⟨rfl, hb2⟩
      have z2 := hb2.size
      have c2 := Below.cells hb2
      have f2 := Below.frozens hb2
      try simp only [World.size_alloc, World.size_setCell, World.size_drew] at z2 c2 f2
      go_wp2_with fail
      refine (N100.out _).mono ?_
      rintro e w3 ⟨rfl, hb3⟩
      have z3 := hb3.size
      have c3 := Below.cells hb3
      have f3 := Below.frozens hb3
      try simp only [World.size_alloc, World.size_setCell, World.size_drew] at z3 c3 f3
      go_wp2_with fail
      refine (R100.out _).mono ?_
      rintro e w4 ⟨rfl, hb4⟩
      have z4 := hb4.size
      have c4 := Below.cells hb4
      have f4 := Below.frozens hb4
      try simp only [World.size_alloc, World.size_setCell, World.size_drew] at z4 c4 f4
      go_wp2_with fail
      refine (ra.out _).mono ?_
      rintro e w5 ⟨rfl, hb5⟩
      have z5 := hb5.size
      have c5 := Below.cells hb5
      have f5 := Below.frozens hb5
      try simp only [World.size_alloc, World.size_setCell, World.size_drew] at z5 c5 f5
      go_wp2_with fail
      refine wp_region_quiet_all (Ext _) (by kernel_rfl) (by kernel_rfl) (Ext.drawn _) ?_
      repeat (first | go_big_quiet_skip | go_big_quiet_step (fail) | (refine BigFrame.wpQuiet_want rfl (fun K hK => ?_); apply Exists.intro; refine ⟨fun w2 h2 => ?_, ?_⟩; (next => (have g1 := Below.cells h2.below; have g2 := Below.frozens h2.below; (try simp only [World.size_alloc, World.size_setCell] at g1 g2); first | (go_simp; (first | (go_at_call 58; first | (with_reducible refine h2.calls (hmr.out _)) | (with_reducible refine h2.calls (HM1.out _))) | (go_at_call 23; first | (with_reducible refine h2.calls (HC1.out _)) | (with_reducible refine h2.calls (HC2.out _))))) | (simp [go_sem, ↓IntWalk.iteOmega, *]; done) | (simp [go_sem, ↓IntWalk.iteOmega, *]; rfl)))); (go_simp; refine hK _ ?_; clear hK K))
      refine wpQuiet_nil ?_
      intro w6 h6
      have hb6 := h6.below
      clear h6
      have z6 := hb6.size
      have c6 := Below.cells hb6
      have f6 := Below.frozens hb6
      try simp only [World.size_alloc, World.size_setCell, World.size_drew] at z6 c6 f6
      go_wp2_with fail
      refine (hmn.out _).mono ?_
      rintro e w7 ⟨rfl, hb7⟩
      have z7 := hb7.size
      have c7 := Below.cells hb7
      have f7 := Below.frozens hb7
      try simp only [World.size_alloc, World.size_setCell, World.size_drew] at z7 c7 f7
      go_wp2_with fail
      refine (rn.out _).mono ?_
      rintro e w8 ⟨rfl, hb8⟩
      have z8 := hb8.size
      have c8 := Below.cells hb8
      have f8 := Below.frozens hb8
      try simp only [World.size_alloc, World.size_setCell, World.size_drew] at z8 c8 f8
      go_wp2_with fail
      refine (HC3.out _).mono ?_
      rintro e w9 ⟨rfl, hb9⟩
      have z9 := hb9.size
      have c9 := Below.cells hb9
      have f9 := Below.frozens hb9
      try simp only [World.size_alloc, World.size_setCell, World.size_drew] at z9 c9 f9
      go_wp2_with fail
      refine (rb.out _).mono ?_
      rintro e w10 ⟨rfl, hb10⟩
      have z10 := hb10.size
      have c10 := Below.cells hb10
      have f10 := Below.frozens hb10
      try simp only [World.size_alloc, World.size_setCell, World.size_drew] at z10 c10 f10
      go_wp2_with fail
      go_ret
      exact ⟨rfl, (by repeat (first | (with_reducible exact Below.refl _ _) | ((with_reducible refine Below.alloc ?_ ?_ _); rotate_left; (next => ((try dsimp only); (try simp only [World.size_alloc, World.size_setCell, World.size_drew]); omega))) | ((with_reducible refine Below.setCell ?_ ?_ _); rotate_left; (next => ((try dsimp only); (try simp only [World.size_alloc, World.size_setCell, World.size_drew]); omega))) | (with_reducible refine Below.drew ?_) | ((with_reducible refine Below.trans ?_ (Below.mono hb10 ?_)); rotate_left; (next => ((try dsimp only); (try simp only [World.size_alloc, World.size_setCell, World.size_drew]); omega))) | ((with_reducible refine Below.trans ?_ (Below.mono hb9 ?_)); rotate_left; (next => ((try dsimp only); (try simp only [World.size_alloc, World.size_setCell, World.size_drew]); omega))) | ((with_reducible refine Below.trans ?_ (Below.mono hb8 ?_)); rotate_left; (next => ((try dsimp only); (try simp only [World.size_alloc, World.size_setCell, World.size_drew]); omega))) | ((with_reducible refine Below.trans ?_ (Below.mono hb7 ?_)); rotate_left; (next => ((try dsimp only); (try simp only [World.size_alloc, World.size_setCell, World.size_drew]); omega))) | ((with_reducible refine Below.trans ?_ (Below.mono hb6 ?_)); rotate_left; (next => ((try dsimp only); (try simp only [World.size_alloc, World.size_setCell, World.size_drew]); omega))) | ((with_reducible refine Below.trans ?_ (Below.mono hb5 ?_)); rotate_left; (next => ((try dsimp only); (try simp only [World.size_alloc, World.size_setCell, World.size_drew]); omega))) | ((with_reducible refine Below.trans ?_ (Below.mono hb4 ?_)); rotate_left; (next => ((try dsimp only); (try simp only [World.size_alloc, World.size_setCell, World.size_drew]); omega))) | ((with_reducible refine Below.trans ?_ (Below.mono hb3 ?_)); rotate_left; (next => ((try dsimp only); (try simp only [World.size_alloc, World.size_setCell, World.size_drew]); omega))) | ((with_reducible refine Below.trans ?_ (Below.mono hb2 ?_)); rotate_left; (next => ((try dsimp only); (try simp only [World.size_alloc, World.size_setCell, World.size_drew]); omega))) | ((with_reducible refine Below.trans ?_ (Below.mono hb1 ?_)); rotate_left; (next => ((try dsimp only); (try simp only [World.size_alloc, World.size_setCell, World.size_drew]); omega)))))⟩
  · obtain rfl : r = 18446744073709551615 := by omega
    clear hx ru r0
    rcases hcb with ⟨z3, hz3, hc3⟩ | ⟨hrs, z3, hz3, hc3⟩
    · have HC3 := Lib.hid hc3
      have hzd3 : decide (0 < z3) = true := by simpa using hz3
      clear hc3
      go_enter Try.func13, Try.ntmps13
      go_wp2_with fail
      refine (N99.out _).mono ?_
      rintro e w1 ⟨rfl, hb1⟩
      have z1 := hb1.size
      have c1 := Below.cells hb1
      have f1 := Below.frozens hb1
      try simp only [World.size_alloc, World.size_setCell, World.size_drew] at z1 c1 f1
      go_wp2_with fail
      refine (R99.out _).mono ?_
      rintro e w2 ⟨rfl, hb2⟩
      have z2 := hb2.size
      have c2 := Below.cells hb2
      have f2 := Below.frozens hb2
      try simp only [World.size_alloc, World.size_setCell, World.size_drew] at z2 c2 f2
      go_wp2_with fail
      refine (N100.out _).mono ?_
      rintro e w3 ⟨rfl, hb3⟩
      have z3 := hb3.size
      have c3 := Below.cells hb3
      have f3 := Below.frozens hb3
      try simp only [World.size_alloc, World.size_setCell, World.size_drew] at z3 c3 f3
      go_wp2_with fail
      refine (R100.out _).mono ?_
      rintro e w4 ⟨rfl, hb4⟩
      have z4 := hb4.size
      have c4 := Below.cells hb4
      have f4 := Below.frozens hb4
      try simp only [World.size_alloc, World.size_setCell, World.size_drew] at z4 c4 f4
      go_wp2_with fail
      refine (ra.out _).mono ?_
      rintro e w5 ⟨rfl, hb5⟩
      have z5 := hb5.size
      have c5 := Below.cells hb5
      have f5 := Below.frozens hb5
      try simp only [World.size_alloc, World.size_setCell, World.size_drew] at z5 c5 f5
      go_wp2_with fail
      refine wp_region_quiet_all (Ext _) (by kernel_rfl) (by kernel_rfl) (Ext.drawn _) ?_
      repeat (first | go_big_quiet_skip | go_big_quiet_step (fail) | (refine BigFrame.wpQuiet_want rfl (fun K hK => ?_); apply Exists.intro; refine ⟨fun w2 h2 => ?_, ?_⟩; (next => (have g1 := Below.cells h2.below; have g2 := Below.frozens h2.below; (try simp only [World.size_alloc, World.size_setCell] at g1 g2); first | (go_simp; (first | (go_at_call 58; (with_reducible refine h2.calls (hmr.out _))) | (go_at_call 23; (with_reducible refine h2.calls (HC1.out _))))) | (simp [go_sem, ↓IntWalk.iteOmega, *]; done) | (simp [go_sem, ↓IntWalk.iteOmega, *]; rfl)))); (go_simp; refine hK _ ?_; clear hK K))
      refine wpQuiet_nil ?_
      intro w6 h6
      have hb6 := h6.below
      clear h6
      have z6 := hb6.size
      have c6 := Below.cells hb6
      have f6 := Below.frozens hb6
      try simp only [World.size_alloc, World.size_setCell, World.size_drew] at z6 c6 f6
      go_wp2_with fail
      refine (hmn.out _).mono ?_
      rintro e w7 ⟨rfl, hb7⟩
      have z7 := hb7.size
      have c7 := Below.cells hb7
      have f7 := Below.frozens hb7
      try simp only [World.size_alloc, World.size_setCell, World.size_drew] at z7 c7 f7
      go_wp2_with fail
      refine (rn.out _).mono ?_
      rintro e w8 ⟨rfl, hb8⟩
      have z8 := hb8.size
      have c8 := Below.cells hb8
      have f8 := Below.frozens hb8
      try simp only [World.size_alloc, World.size_setCell, World.size_drew] at z8 c8 f8
      go_wp2_with fail
      refine (HC3.out _).mono ?_
      rintro e w9 ⟨rfl, hb9⟩
      have z9 := hb9.size
      have c9 := Below.cells hb9
      have f9 := Below.frozens hb9
      try simp only [World.size_alloc, World.size_setCell, World.size_drew] at z9 c9 f9
      go_wp2_with fail
      go_ret
      exact ⟨rfl, (by repeat (first | (with_reducible exact Below.refl _ _) | ((with_reducible refine Below.alloc ?_ ?_ _); rotate_left; (next => ((try dsimp only); (try simp only [World.size_alloc, World.size_setCell, World.size_drew]); omega))) | ((with_reducible refine Below.setCell ?_ ?_ _); rotate_left; (next => ((try dsimp only); (try simp only [World.size_alloc, World.size_setCell, World.size_drew]); omega))) | (with_reducible refine Below.drew ?_) | ((with_reducible refine Below.trans ?_ (Below.mono hb9 ?_)); rotate_left; (next => ((try dsimp only); (try simp only [World.size_alloc, World.size_setCell, World.size_drew]); omega))) | ((with_reducible refine Below.trans ?_ (Below.mono hb8 ?_)); rotate_left; (next => ((try dsimp only); (try simp only [World.size_alloc, World.size_setCell, World.size_drew]); omega))) | ((with_reducible refine Below.trans ?_ (Below.mono hb7 ?_)); rotate_left; (next => ((try dsimp only); (try simp only [World.size_alloc, World.size_setCell, World.size_drew]); omega))) | ((with_reducible refine Below.trans ?_ (Below.mono hb6 ?_)); rotate_left; (next => ((try dsimp only); (try simp only [World.size_alloc, World.size_setCell, World.size_drew]); omega))) | ((with_reducible refine Below.trans ?_ (Below.mono hb5 ?_)); rotate_left; (next => ((try dsimp only); (try simp only [World.size_alloc, World.size_setCell, World.size_drew]); omega))) | ((with_reducible refine Below.trans ?_ (Below.mono hb4 ?_)); rotate_left; (next => ((try dsimp only); (try simp only [World.size_alloc, World.size_setCell, World.size_drew]); omega))) | ((with_reducible refine Below.trans ?_ (Below.mono hb3 ?_)); rotate_left; (next => ((try dsimp only); (try simp only [World.size_alloc, World.size_setCell, World.size_drew]); omega))) | ((with_reducible refine Below.trans ?_ (Below.mono hb2 ?_)); rotate_left; (next => ((try dsimp only); (try simp only [World.size_alloc, World.size_setCell, World.size_drew]); omega))) | ((with_reducible refine Below.trans ?_ (Below.mono hb1 ?_)); rotate_left; (next => ((try dsimp only); (try simp only [World.size_alloc, World.size_setCell, World.size_drew]); omega)))))⟩
    · have hrd : decide (_ ≤ s) = true := decide_eq_true hrs
      have HC3 := Lib.hid hc3
      have hzd3 : decide (0 < z3) = false := by simpa using hz3
      clear hc3
      go_enter Try.func13, Try.ntmps13
      go_wp2_with fail
      refine (N99.out _).mono ?_
      rintro e w1 ⟨rfl, hb1⟩
      have z1 := hb1.size
      have c1 := Below.cells hb1
      have f1 := Below.frozens hb1
      try simp only [World.size_alloc, World.size_setCell, World.size_drew] at z1 c1 f1
      go_wp2_with fail
      refine (R99.out _).mono ?_
      rintro e w2 ⟨rfl, hb2⟩
      have z2 := hb2.size
      have c2 := Below.cells hb2
      have f2 := Below.frozens hb2
      try simp only [World.size_alloc, World.size_setCell, World.size_drew] at z2 c2 f2
      go_wp2_with fail
      refine (N100.out _).mono ?_
      rintro e w3 ⟨rfl, hb3⟩
      have z3 := hb3.size
      have c3 := Below.cells hb3
      have f3 := Below.frozens hb3
      try simp only [World.size_alloc, World.size_setCell, World.size_drew] at z3 c3 f3
      go_wp2_with fail
      refine (R100.out _).mono ?_
      rintro e w4 ⟨rfl, hb4⟩
      have z4 := hb4.size
      have c4 := Below.cells hb4
      have f4 := Below.frozens hb4
      try simp only [World.size_alloc, World.size_setCell, World.size_drew] at z4 c4 f4
      go_wp2_with fail
      refine (ra.out _).mono ?_
      rintro e w5 ⟨rfl, hb5⟩
      have z5 := hb5.size
      have c5 := Below.cells hb5
      have f5 := Below.frozens hb5
      try simp only [World.size_alloc, World.size_setCell, World.size_drew] at z5 c5 f5
      go_wp2_with fail
      refine wp_region_quiet_all (Ext _) (by kernel_rfl) (by kernel_rfl) (Ext.drawn _) ?_
      repeat (first | go_big_quiet_skip | go_big_quiet_step (fail) | (refine BigFrame.wpQuiet_want rfl (fun K hK => ?_); apply Exists.intro; refine ⟨fun w2 h2 => ?_, ?_⟩; (next => (have g1 := Below.cells h2.below; have g2 := Below.frozens h2.below; (try simp only [World.size_alloc, World.size_setCell] at g1 g2); first | (go_simp; (first | (go_at_call 58; (with_reducible refine h2.calls (hmr.out _))) | (go_at_call 23; (with_reducible refine h2.calls (HC1.out _))))) | (simp [go_sem, ↓IntWalk.iteOmega, *]; done) | (simp [go_sem, ↓IntWalk.iteOmega, *]; rfl)))); (go_simp; refine hK _ ?_; clear hK K))
      refine wpQuiet_nil ?_
      intro w6 h6
      have hb6 := h6.below
      clear h6
      have z6 := hb6.size
      have c6 := Below.cells hb6
      have f6 := Below.frozens hb6
      try simp only [World.size_alloc, World.size_setCell, World.size_drew] at z6 c6 f6
      go_wp2_with fail
      refine (hmn.out _).mono ?_
      rintro e w7 ⟨rfl, hb7⟩
      have z7 := hb7.size
      have c7 := Below.cells hb7
      have f7 := Below.frozens hb7
      try simp only [World.size_alloc, World.size_setCell, World.size_drew] at z7 c7 f7
      go_wp2_with fail
      refine (rn.out _).mono ?_
      rintro e w8 ⟨rfl, hb8⟩
      have z8 := hb8.size
      have c8 := Below.cells hb8
      have f8 := Below.frozens hb8
      try simp only [World.size_alloc, World.size_setCell, World.size_drew] at z8 c8 f8
      go_wp2_with fail
      refine (HC3.out _).mono ?_
      rintro e w9 ⟨rfl, hb9⟩
      have z9 := hb9.size
      have c9 := Below.cells hb9
      have f9 := Below.frozens hb9
      try simp only [World.size_alloc, World.size_setCell, World.size_drew] at z9 c9 f9
      go_wp2_with fail
      refine (rb.out _).mono ?_
      rintro e w10 ⟨rfl, hb10⟩
      have z10 := hb10.size
      have c10 := Below.cells hb10
      have f10 := Below.frozens hb10
      try simp only [World.size_alloc, World.size_setCell, World.size_drew] at z10 c10 f10
      go_wp2_with fail
      go_ret
      exact ⟨rfl, (by repeat (first | (with_reducible exact Below.refl _ _) | ((with_reducible refine Below.alloc ?_ ?_ _); rotate_left; (next => ((try dsimp only); (try simp only [World.size_alloc, World.size_setCell, World.size_drew]); omega))) | ((with_reducible refine Below.setCell ?_ ?_ _); rotate_left; (next => ((try dsimp only); (try simp only [World.size_alloc, World.size_setCell, World.size_drew]); omega))) | (with_reducible refine Below.drew ?_) | ((with_reducible refine Below.trans ?_ (Below.mono hb10 ?_)); rotate_left; (next => ((try dsimp only); (try simp only [World.size_alloc, World.size_setCell, World.size_drew]); omega))) | ((with_reducible refine Below.trans ?_ (Below.mono hb9 ?_)); rotate_left; (next => ((try dsimp only); (try simp only [World.size_alloc, World.size_setCell, World.size_drew]); omega))) | ((with_reducible refine Below.trans ?_ (Below.mono hb8 ?_)); rotate_left; (next => ((try dsimp only); (try simp only [World.size_alloc, World.size_setCell, World.size_drew]); omega))) | ((with_reducible refine Below.trans ?_ (Below.mono hb7 ?_)); rotate_left; (next => ((try dsimp only); (try simp only [World.size_alloc, World.size_setCell, World.size_drew]); omega))) | ((with_reducible refine Below.trans ?_ (Below.mono hb6 ?_)); rotate_left; (next => ((try dsimp only); (try simp only [World.size_alloc, World.size_setCell, World.size_drew]); omega))) | ((with_reducible refine Below.trans ?_ (Below.mono hb5 ?_)); rotate_left; (next => ((try dsimp only); (try simp only [World.size_alloc, World.size_setCell, World.size_drew]); omega))) | ((with_reducible refine Below.trans ?_ (Below.mono hb4 ?_)); rotate_left; (next => ((try dsimp only); (try simp only [World.size_alloc, World.size_setCell, World.size_drew]); omega))) | ((with_reducible refine Below.trans ?_ (Below.mono hb3 ?_)); rotate_left; (next => ((try dsimp only); (try simp only [World.size_alloc, World.size_setCell, World.size_drew]); omega))) | ((with_reducible refine Below.trans ?_ (Below.mono hb2 ?_)); rotate_left; (next => ((try dsimp only); (try simp only [World.size_alloc, World.size_setCell, World.size_drew]); omega))) | ((with_reducible refine Below.trans ?_ (Below.mono hb1 ?_)); rotate_left; (next => ((try dsimp only); (try simp only [World.size_alloc, World.size_setCell, World.size_drew]); omega)))))⟩
end Go.Proofs.Ytgiipelonojgaaa

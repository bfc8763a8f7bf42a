import Derived.Test.YtbmnekehgjcfkaaDiv
import Derived.Test.YtbmnekehgjcfkaaW3
set_option linter.unusedSimpArgs false
set_option linter.unusedVariables false
namespace Go.Proofs.Ytbmnekehgjcfkaa
open Go.RowKit

theorem Wd.one0 : Wd 18446744073709551616 1 0 := by unfold Wd U128 hi lo; omega
theorem wd_nz {b bh bl : Int} (hb : Wd b bh bl) (h : 0 < b) : (bh = 0 ∧ ¬ bl = 0) ∨ (¬ bh = 0 ∧ bl = 0) ∨ (¬ bh = 0 ∧ ¬ bl = 0) := by
  obtain ⟨u, rfl, rfl⟩ := hb
  unfold U128 hi lo at *; omega

set_option maxRecDepth 100000 in
set_option maxHeartbeats 8000000 in
theorem divBack_walk (a b : Int) (w : World) (ha : U128 a) (hb : U128 b) :
    Calls Try.prog 10 #[.agg #[.int .u64 (hi a), .int .u64 (lo a)], .agg #[.int .u64 (hi b), .int .u64 (lo b)]] w fun e w' =>
      e = .returned (.bool true) ∧ Below w.heap.size w w' := by
  have hn10 : ∀ w, _ := fun w => num_any 10 w (by omega) (by omega)
  have hn6 : ∀ w, _ := fun w => num_any 6 w (by omega) (by omega)
  have hd0 : ∀ w, Calls Try.prog 53 #[.agg #[.int .u64 1, .int .u64 0], .agg #[.int .u64 0, .int .u64 10]] w fun e w' => e = .returned (.tuple #[.agg #[.int .u64 0, .int .u64 1844674407370955161], .agg #[.int .u64 0, .int .u64 6], .int .i64 0]) ∧ Below w.heap.size w w' :=
    fun w => div_ok 18446744073709551616 10 1844674407370955161 6 Wd.one0 (Wd.lit (by unfold U64; omega)) (by omega) (by omega) (by omega) w
  have N10 := Lib.hid hn10
  have N6 := Lib.hid hn6
  have D0 := Lib.hid hd0
  have ha' := Wd.mk ha
  have hb' := Wd.mk hb
  obtain ⟨ah, e1⟩ : ∃ z, hi a = z := ⟨_, rfl⟩
  obtain ⟨al, e2⟩ : ∃ z, lo a = z := ⟨_, rfl⟩
  obtain ⟨bh, e3⟩ : ∃ z, hi b = z := ⟨_, rfl⟩
  obtain ⟨bl, e4⟩ : ∃ z, lo b = z := ⟨_, rfl⟩
  have ual : U64 al := by rw [← e2]; exact ha.lo
  have ubl : U64 bl := by rw [← e4]; exact hb.lo
  rw [e1, e2] at ha' ⊢
  rw [e3, e4] at hb' ⊢
  have qa := alloc_cells
  have qf := alloc_frozens
  clear e1 e2 hn10 hn6 hd0
  rcases (by have := hb.1; omega : b = 0 ∨ 0 < b) with rfl | h0
  · obtain rfl : bh = 0 := by rw [← e3]; rfl
    obtain rfl : bl = 0 := by rw [← e4]; rfl
    have hd : ∀ w, _ := fun w => div_none a ha' w
    have HD := Lib.hid hd
    clear e3 e4 hd ha hb ha' hb'
    go_enter Try.func10, Try.ntmps10
    go_wp2_with fail
    refine (N10.out _).mono ?_
    rintro e w1 ⟨rfl, hb1⟩
    have z1 := hb1.size
    have c1 := Below.cells hb1
    have f1 := Below.frozens hb1
    try simp only [World.size_alloc, World.size_setCell, World.size_drew] at z1 c1 f1
    go_wp2_with fail
    refine (D0.out _).mono ?_
    rintro e w2 ⟨rfl, hb2⟩
    have z2 := hb2.size
    have c2 := Below.cells hb2
    have f2 := Below.frozens hb2
    try simp only [World.size_alloc, World.size_setCell, World.size_drew] at z2 c2 f2
    go_wp2_with fail
    refine wp_region_quiet_all (Ext _) (by kernel_rfl) (by kernel_rfl) (Ext.drawn _) ?_
    repeat (first | (refine BigFrame.wpQuiet_skip rfl ?_) | go_big_quiet_step (fail) | (refine BigFrame.wpQuiet_want rfl (fun K hK => ?_); apply Exists.intro; refine ⟨fun w2 h2 => ?_, ?_⟩; (next => (have g1 := Below.cells h2.below; have g2 := Below.frozens h2.below; (try simp only [World.size_alloc, World.size_setCell] at g1 g2); first | (go_simp; (go_at_call 48; refine h2.calls (N6.out _))) | (simp [go_sem, ↓IntWalk.iteOmega, *]; done) | (simp [go_sem, ↓IntWalk.iteOmega, *]; rfl)))); (go_simp; refine hK _ ?_; clear hK K))
    refine wpQuiet_nil ?_
    intro w3 h3
    have hb3 := h3.below
    clear h3
    have z3 := hb3.size
    have c3 := Below.cells hb3
    have f3 := Below.frozens hb3
    try simp only [World.size_alloc, World.size_setCell, World.size_drew] at z3 c3 f3
    go_wp2_with fail
    refine (HD.out _).mono ?_
    rintro e w4 ⟨rfl, hb4⟩
    have z4 := hb4.size
    have c4 := Below.cells hb4
    have f4 := Below.frozens hb4
    try simp only [World.size_alloc, World.size_setCell, World.size_drew] at z4 c4 f4
    go_wp2_with fail
    go_ret
    exact ⟨rfl, (by repeat (first | (with_reducible exact Below.refl _ _) | ((with_reducible refine Below.alloc ?_ ?_ _); rotate_left; (next => ((try dsimp only); (try simp only [World.size_alloc, World.size_setCell, World.size_drew]); omega))) | ((with_reducible refine Below.setCell ?_ ?_ _); rotate_left; (next => ((try dsimp only); (try simp only [World.size_alloc, World.size_setCell, World.size_drew]); omega))) | (with_reducible refine Below.drew ?_) | ((with_reducible refine Below.trans ?_ (Below.mono hb4 ?_)); rotate_left; (next => ((try dsimp only); (try simp only [World.size_alloc, World.size_setCell, World.size_drew]); omega))) | ((with_reducible refine Below.trans ?_ (Below.mono hb3 ?_)); rotate_left; (next => ((try dsimp only); (try simp only [World.size_alloc, World.size_setCell, World.size_drew]); omega))) | ((with_reducible refine Below.trans ?_ (Below.mono hb2 ?_)); rotate_left; (next => ((try dsimp only); (try simp only [World.size_alloc, World.size_setCell, World.size_drew]); omega))) | ((with_reducible refine Below.trans ?_ (Below.mono hb1 ?_)); rotate_left; (next => ((try dsimp only); (try simp only [World.size_alloc, World.size_setCell, World.size_drew]); omega)))))⟩
  · clear e3 e4
    obtain ⟨q, hq⟩ : ∃ q, a / b = q := ⟨_, rfl⟩
    obtain ⟨r, hr⟩ : ∃ r, a % b = r := ⟨_, rfl⟩
    have r0 := Int.emod_nonneg a (show b ≠ 0 by omega)
    have r1 := Int.emod_lt_of_pos a h0
    have q0 : 0 ≤ a / b := Int.ediv_nonneg ha.1 (by omega)
    have dv := Int.emod_add_mul_ediv a b
    rw [hr] at r0 r1 dv
    rw [hq] at q0 dv
    have qb : 0 ≤ q * b := Int.mul_nonneg q0 (by omega)
    rw [Int.mul_comm] at dv
    have q2 : q ≤ q * b := by
      have := Int.mul_le_mul_of_nonneg_left (show 1 ≤ b by omega) q0
      omega
    have uq : U128 q := by unfold U128 at *; omega
    have ur : U128 r := by unfold U128 at *; omega
    have uqb : U128 (q * b) := by unfold U128 at *; omega
    obtain ⟨aw, e1, e2⟩ := ha'
    have hd : ∀ w, _ := fun w => div_ok a b q r (Wd.mk ha) hb' h0 hq hr w
    have ht : ∀ w, _ := fun w => times_ok q b (q * b) (Wd.mk uq) hb' rfl uqb w
    have hs : ∀ w, _ := fun w => add_ok (q * b) r a (Wd.mk uqb) (Wd.mk ur) (by omega) ha w
    rw [← e1, ← e2] at hd hs
    have hc : ∃ z : Int, z < 0 ∧ ∀ w, Calls Try.prog 29 #[.agg #[.int .u64 (hi r), .int .u64 (lo r)], .agg #[.int .u64 bh, .int .u64 bl]] w fun e w' => e = .returned (.int .i64 z) ∧ Below w.heap.size w w' := ⟨-1, by omega, fun w => cmp_lt r b (Wd.mk ur) hb' r1 w⟩
    obtain ⟨z, hz, hc⟩ := hc
    have hzd : decide (0 ≤ z) = false := by simpa using hz
    obtain ⟨m, hm⟩ : ∃ m, al * bl = m := ⟨_, rfl⟩
    have um : U128 m := by rw [← hm]; exact u64_mul_nonneg ual ubl
    have hml : ∀ w, _ := fun w => mul_any al bl m w ual ubl hm
    have HD := Lib.hid hd
    have HT := Lib.hid ht
    have HS := Lib.hid hs
    have HC := Lib.hid hc
    have HM := Lib.hid hml
    have hl : bl = 0 ∨ ((bl == 0) = false ∧ ¬ bl = 0 ∧ ∀ w, Calls Try.prog 53 #[.agg #[.int .u64 (hi m), .int .u64 (lo m)], .agg #[.int .u64 0, .int .u64 bl]] w fun e w' => e = .returned (.tuple #[.agg #[.int .u64 0, .int .u64 al], .agg #[.int .u64 0, .int .u64 0], .int .i64 0]) ∧ Below w.heap.size w w') := by
      by_cases c : bl = 0
      · exact .inl c
      · refine .inr ⟨by simpa using c, c, fun w => ?_⟩
        have := div_ok m bl al 0 (Wd.mk um) (Wd.lit ubl) (by unfold U64 at ubl; omega) (by rw [← hm, Int.mul_ediv_cancel _ c]) (by rw [← hm, Int.mul_emod_left]) w
        rwa [show hi al = 0 by unfold hi U64 at *; omega, show lo al = al by unfold lo U64 at *; omega] at this
    clear hd ht hs hc hml ha hb hb' hq hr dv uq ur uqb um e1 e2 aw hm q2 qb r0 r1 q0 ual ubl h0
    rcases hl with rfl | ⟨c1, c2, hdl⟩
    · go_enter Try.func10, Try.ntmps10
      go_wp2_with fail
      refine (N10.out _).mono ?_
      rintro e w1 ⟨rfl, hb1⟩
      have z1 := hb1.size
      have c1 := Below.cells hb1
      have f1 := Below.frozens hb1
      try simp only [World.size_alloc, World.size_setCell, World.size_drew] at z1 c1 f1
      go_wp2_with fail
      refine (D0.out _).mono ?_
      rintro e w2 ⟨rfl, hb2⟩
      have z2 := hb2.size
      have c2 := Below.cells hb2
      have f2 := Below.frozens hb2
      try simp only [World.size_alloc, World.size_setCell, World.size_drew] at z2 c2 f2
      go_wp2_with fail
      refine wp_region_quiet_all (Ext _) (by kernel_rfl) (by kernel_rfl) (Ext.drawn _) ?_
      repeat (first | (refine BigFrame.wpQuiet_skip rfl ?_) | go_big_quiet_step (fail) | (refine BigFrame.wpQuiet_want rfl (fun K hK => ?_); apply Exists.intro; refine ⟨fun w2 h2 => ?_, ?_⟩; (next => (have g1 := Below.cells h2.below; have g2 := Below.frozens h2.below; (try simp only [World.size_alloc, World.size_setCell] at g1 g2); first | (go_simp; (go_at_call 48; refine h2.calls (N6.out _))) | (simp [go_sem, ↓IntWalk.iteOmega, *]; done) | (simp [go_sem, ↓IntWalk.iteOmega, *]; rfl)))); (go_simp; refine hK _ ?_; clear hK K))
      refine wpQuiet_nil ?_
      intro w3 h3
      have hb3 := h3.below
      clear h3
      have z3 := hb3.size
      have c3 := Below.cells hb3
      have f3 := Below.frozens hb3
      try simp only [World.size_alloc, World.size_setCell, World.size_drew] at z3 c3 f3
      go_wp2_with fail
      refine (HD.out _).mono ?_
      rintro e w4 ⟨rfl, hb4⟩
      have z4 := hb4.size
      have c4 := Below.cells hb4
      have f4 := Below.frozens hb4
      try simp only [World.size_alloc, World.size_setCell, World.size_drew] at z4 c4 f4
      go_wp2_with fail
      refine (HT.out _).mono ?_
      rintro e w5 ⟨rfl, hb5⟩
      have z5 := hb5.size
      have c5 := Below.cells hb5
      have f5 := Below.frozens hb5
      try simp only [World.size_alloc, World.size_setCell, World.size_drew] at z5 c5 f5
      go_wp2_with fail
      refine (HS.out _).mono ?_
      rintro e w6 ⟨rfl, hb6⟩
      have z6 := hb6.size
      have c6 := Below.cells hb6
      have f6 := Below.frozens hb6
      try simp only [World.size_alloc, World.size_setCell, World.size_drew] at z6 c6 f6
      go_wp2_with fail
      refine (HC.out _).mono ?_
      rintro e w7 ⟨rfl, hb7⟩
      have z7 := hb7.size
      have c7 := Below.cells hb7
      have f7 := Below.frozens hb7
      try simp only [World.size_alloc, World.size_setCell, World.size_drew] at z7 c7 f7
      go_wp2_with fail
      refine (HM.out _).mono ?_
      rintro e w8 ⟨rfl, hb8⟩
      have z8 := hb8.size
      have c8 := Below.cells hb8
      have f8 := Below.frozens hb8
      try simp only [World.size_alloc, World.size_setCell, World.size_drew] at z8 c8 f8
      go_wp2_with fail
      go_ret
      exact ⟨rfl, (by repeat (first | (with_reducible exact Below.refl _ _) | ((with_reducible refine Below.alloc ?_ ?_ _); rotate_left; (next => ((try dsimp only); (try simp only [World.size_alloc, World.size_setCell, World.size_drew]); omega))) | ((with_reducible refine Below.setCell ?_ ?_ _); rotate_left; (next => ((try dsimp only); (try simp only [World.size_alloc, World.size_setCell, World.size_drew]); omega))) | (with_reducible refine Below.drew ?_) | ((with_reducible refine Below.trans ?_ (Below.mono hb8 ?_)); rotate_left; (next => ((try dsimp only); (try simp only [World.size_alloc, World.size_setCell, World.size_drew]); omega))) | ((with_reducible refine Below.trans ?_ (Below.mono hb7 ?_)); rotate_left; (next => ((try dsimp only); (try simp only [World.size_alloc, World.size_setCell, World.size_drew]); omega))) | ((with_reducible refine Below.trans ?_ (Below.mono hb6 ?_)); rotate_left; (next => ((try dsimp only); (try simp only [World.size_alloc, World.size_setCell, World.size_drew]); omega))) | ((with_reducible refine Below.trans ?_ (Below.mono hb5 ?_)); rotate_left; (next => ((try dsimp only); (try simp only [World.size_alloc, World.size_setCell, World.size_drew]); omega))) | ((with_reducible refine Below.trans ?_ (Below.mono hb4 ?_)); rotate_left; (next => ((try dsimp only); (try simp only [World.size_alloc, World.size_setCell, World.size_drew]); omega))) | ((with_reducible refine Below.trans ?_ (Below.mono hb3 ?_)); rotate_left; (next => ((try dsimp only); (try simp only [World.size_alloc, World.size_setCell, World.size_drew]); omega))) | ((with_reducible refine Below.trans ?_ (Below.mono hb2 ?_)); rotate_left; (next => ((try dsimp only); (try simp only [World.size_alloc, World.size_setCell, World.size_drew]); omega))) | ((with_reducible refine Below.trans ?_ (Below.mono hb1 ?_)); rotate_left; (next => ((try dsimp only); (try simp only [World.size_alloc, World.size_setCell, World.size_drew]); omega)))))⟩
    · have HDL := Lib.hid hdl
      clear hdl
      go_enter Try.func10, Try.ntmps10
      go_wp2_with fail
      refine (N10.out _).mono ?_
      rintro e w1 ⟨rfl, hb1⟩
      have z1 := hb1.size
      have c1 := Below.cells hb1
      have f1 := Below.frozens hb1
      try simp only [World.size_alloc, World.size_setCell, World.size_drew] at z1 c1 f1
      go_wp2_with fail
      refine (D0.out _).mono ?_
      rintro e w2 ⟨rfl, hb2⟩
      have z2 := hb2.size
      have c2 := Below.cells hb2
      have f2 := Below.frozens hb2
      try simp only [World.size_alloc, World.size_setCell, World.size_drew] at z2 c2 f2
      go_wp2_with fail
      refine wp_region_quiet_all (Ext _) (by kernel_rfl) (by kernel_rfl) (Ext.drawn _) ?_
      repeat (first | (refine BigFrame.wpQuiet_skip rfl ?_) | go_big_quiet_step (fail) | (refine BigFrame.wpQuiet_want rfl (fun K hK => ?_); apply Exists.intro; refine ⟨fun w2 h2 => ?_, ?_⟩; (next => (have g1 := Below.cells h2.below; have g2 := Below.frozens h2.below; (try simp only [World.size_alloc, World.size_setCell] at g1 g2); first | (go_simp; (go_at_call 48; refine h2.calls (N6.out _))) | (simp [go_sem, ↓IntWalk.iteOmega, *]; done) | (simp [go_sem, ↓IntWalk.iteOmega, *]; rfl)))); (go_simp; refine hK _ ?_; clear hK K))
      refine wpQuiet_nil ?_
      intro w3 h3
      have hb3 := h3.below
      clear h3
      have z3 := hb3.size
      have c3 := Below.cells hb3
      have f3 := Below.frozens hb3
      try simp only [World.size_alloc, World.size_setCell, World.size_drew] at z3 c3 f3
      go_wp2_with fail
      refine (HD.out _).mono ?_
      rintro e w4 ⟨rfl, hb4⟩
      have z4 := hb4.size
      have c4 := Below.cells hb4
      have f4 := Below.frozens hb4
      try simp only [World.size_alloc, World.size_setCell, World.size_drew] at z4 c4 f4
      go_wp2_with fail
      refine (HT.out _).mono ?_
      rintro e w5 ⟨rfl, hb5⟩
      have z5 := hb5.size
      have c5 := Below.cells hb5
      have f5 := Below.frozens hb5
      try simp only [World.size_alloc, World.size_setCell, World.size_drew] at z5 c5 f5
      go_wp2_with fail
      refine (HS.out _).mono ?_
      rintro e w6 ⟨rfl, hb6⟩
      have z6 := hb6.size
      have c6 := Below.cells hb6
      have f6 := Below.frozens hb6
      try simp only [World.size_alloc, World.size_setCell, World.size_drew] at z6 c6 f6
      go_wp2_with fail
      refine (HC.out _).mono ?_
      rintro e w7 ⟨rfl, hb7⟩
      have z7 := hb7.size
      have c7 := Below.cells hb7
      have f7 := Below.frozens hb7
      try simp only [World.size_alloc, World.size_setCell, World.size_drew] at z7 c7 f7
      go_wp2_with fail
      refine (HM.out _).mono ?_
      rintro e w8 ⟨rfl, hb8⟩
      have z8 := hb8.size
      have c8 := Below.cells hb8
      have f8 := Below.frozens hb8
      try simp only [World.size_alloc, World.size_setCell, World.size_drew] at z8 c8 f8
      go_wp2_with fail
      refine (HDL.out _).mono ?_
      rintro e w9 ⟨rfl, hb9⟩
      have z9 := hb9.size
      have c9 := Below.cells hb9
      have f9 := Below.frozens hb9
      try simp only [World.size_alloc, World.size_setCell, World.size_drew] at z9 c9 f9
      go_wp2_with fail
      go_ret
      exact ⟨rfl, (by repeat (first | (with_reducible exact Below.refl _ _) | ((with_reducible refine Below.alloc ?_ ?_ _); rotate_left; (next => ((try dsimp only); (try simp only [World.size_alloc, World.size_setCell, World.size_drew]); omega))) | ((with_reducible refine Below.setCell ?_ ?_ _); rotate_left; (next => ((try dsimp only); (try simp only [World.size_alloc, World.size_setCell, World.size_drew]); omega))) | (with_reducible refine Below.drew ?_) | ((with_reducible refine Below.trans ?_ (Below.mono hb9 ?_)); rotate_left; (next => ((try dsimp only); (try simp only [World.size_alloc, World.size_setCell, World.size_drew]); omega))) | ((with_reducible refine Below.trans ?_ (Below.mono hb8 ?_)); rotate_left; (next => ((try dsimp only); (try simp only [World.size_alloc, World.size_setCell, World.size_drew]); omega))) | ((with_reducible refine Below.trans ?_ (Below.mono hb7 ?_)); rotate_left; (next => ((try dsimp only); (try simp only [World.size_alloc, World.size_setCell, World.size_drew]); omega))) | ((with_reducible refine Below.trans ?_ (Below.mono hb6 ?_)); rotate_left; (next => ((try dsimp only); (try simp only [World.size_alloc, World.size_setCell, World.size_drew]); omega))) | ((with_reducible refine Below.trans ?_ (Below.mono hb5 ?_)); rotate_left; (next => ((try dsimp only); (try simp only [World.size_alloc, World.size_setCell, World.size_drew]); omega))) | ((with_reducible refine Below.trans ?_ (Below.mono hb4 ?_)); rotate_left; (next => ((try dsimp only); (try simp only [World.size_alloc, World.size_setCell, World.size_drew]); omega))) | ((with_reducible refine Below.trans ?_ (Below.mono hb3 ?_)); rotate_left; (next => ((try dsimp only); (try simp only [World.size_alloc, World.size_setCell, World.size_drew]); omega))) | ((with_reducible refine Below.trans ?_ (Below.mono hb2 ?_)); rotate_left; (next => ((try dsimp only); (try simp only [World.size_alloc, World.size_setCell, World.size_drew]); omega))) | ((with_reducible refine Below.trans ?_ (Below.mono hb1 ?_)); rotate_left; (next => ((try dsimp only); (try simp only [World.size_alloc, World.size_setCell, World.size_drew]); omega)))))⟩
end Go.Proofs.Ytbmnekehgjcfkaa

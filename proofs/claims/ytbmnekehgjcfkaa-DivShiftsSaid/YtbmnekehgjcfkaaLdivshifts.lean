import Derived.Test.YtbmnekehgjcfkaaDiv
import Derived.Test.YtbmnekehgjcfkaaW3
set_option linter.unusedSimpArgs false
set_option linter.unusedVariables false
namespace Go.Proofs.Ytbmnekehgjcfkaa
open Go.RowKit

set_option maxRecDepth 100000 in
set_option maxHeartbeats 8000000 in
theorem divShifts_walk (a n : Int) (w : World) (ha : U128 a) (_ : (Lit.int .i64 n).wf = true) :
    Calls Try.prog 9 #[.agg #[.int .u64 (hi a), .int .u64 (lo a)], .int .i64 n] w fun e w' =>
      e = .returned (.bool true) ∧ Below w.heap.size w w' := by
  have N13 := Lib.hid (fun w => num_any 13 w (by omega) (by omega))
  have N8 := Lib.hid (fun w => num_any 8 w (by omega) (by omega))
  have N5 := Lib.hid (fun w => num_any 5 w (by omega) (by omega))
  have N1 := Lib.hid (fun w => num_any 1 w (by omega) (by omega))
  have hd0 : ∀ w, Calls Try.prog 53 #[.agg #[.int .u64 0, .int .u64 13], .agg #[.int .u64 0, .int .u64 8]] w fun e w' => e = .returned (.tuple #[.agg #[.int .u64 0, .int .u64 1], .agg #[.int .u64 0, .int .u64 5], .int .i64 0]) ∧ Below w.heap.size w w' :=
    fun w => div_ok 13 8 1 5 (Wd.lit (by unfold U64; omega)) (Wd.lit (by unfold U64; omega)) (by omega) (by omega) (by omega) w
  have D0 := Lib.hid hd0
  have b1 := within_bd n (n := 128) (by omega)
  obtain ⟨S, e_S⟩ : ∃ z_, within n 128 = z_ := ⟨_, rfl⟩
  rw [e_S] at b1
  have HS := Lib.hid e_S
  clear e_S
  have p := p2 S.toNat
  obtain ⟨P, hP⟩ : ∃ P : Int, 2 ^ S.toNat = P := ⟨_, rfl⟩
  rw [hP] at p
  have P128 : P < 340282366920938463463374607431768211456 := by
    have : (2 : Int) ^ S.toNat * 2 ≤ 2 ^ 128 := pow_lt_pow (by omega)
    rw [hP] at this
    have e : (2 : Int) ^ 128 = 340282366920938463463374607431768211456 := rfl
    omega
  have uP : U128 P := by unfold U128; omega
  obtain ⟨q, hq⟩ : ∃ q, a / P = q := ⟨_, rfl⟩
  obtain ⟨r, hr⟩ : ∃ r, a % P = r := ⟨_, rfl⟩
  have r0 := Int.emod_nonneg a (show P ≠ 0 by omega)
  have r1 := Int.emod_lt_of_pos a p
  have q0 : 0 ≤ a / P := Int.ediv_nonneg ha.1 (by omega)
  have dv := Int.emod_add_mul_ediv a P
  rw [hr] at r0 r1 dv
  rw [hq] at q0 dv
  rw [Int.mul_comm] at dv
  have qb : 0 ≤ q * P := Int.mul_nonneg q0 (by omega)
  have q2 : q ≤ q * P := by
    have := Int.mul_le_mul_of_nonneg_left (show 1 ≤ P by omega) q0
    omega
  have uq : U128 q := by unfold U128 at *; omega
  have ur : U128 r := by unfold U128 at *; omega
  have uqP : U128 (q * P) := by unfold U128 at *; omega
  obtain ⟨G, hG⟩ : ∃ G, q * P = G := ⟨_, rfl⟩
  rw [hG] at uqP dv
  have hshl : ∀ w, _ := fun w => shl_ok 1 S P (Wd.lit (by unfold U64; omega)) w (by omega) (by omega) (by rw [hP]; omega) uP
  have hdv : ∀ w, _ := fun w => div_ok a P q r (Wd.mk ha) (Wd.mk uP) p hq hr w
  have hshr : ∀ w, _ := fun w => shr_any a S (Wd.mk ha) w (by omega) (by omega)
  rw [hP, hq] at hshr
  have hshl2 : ∀ w, _ := fun w => shl_ok q S G (Wd.mk uq) w (by omega) (by omega) (by rw [hP, hG]) uqP
  have hsub : ∀ w, _ := fun w => sub_ok a G r (Wd.mk ha) (Wd.mk uqP) (by omega) ur w
  have HShl := Lib.hid hshl
  have HDv := Lib.hid hdv
  have HShr := Lib.hid hshr
  have HShl2 := Lib.hid hshl2
  have HSub := Lib.hid hsub
  have qa := alloc_cells
  have qf := alloc_frozens
  clear hshl hdv hshr hshl2 hsub hd0 hP hq hr r0 r1 dv hG uq ur uqP uP P128 ha p qb q2 q0
  go_enter Try.func9, Try.ntmps9
  go_wp2_with fail
  refine (N13.out _).mono ?_
  rintro e w1 ⟨rfl, hb1⟩
  have z1 := hb1.size
  have c1 := Below.cells hb1
  have f1 := Below.frozens hb1
  try simp only [World.size_alloc, World.size_setCell, World.size_drew] at z1 c1 f1
  go_wp2_with fail
  refine (N8.out _).mono ?_
  rintro e w2 ⟨rfl, hb2⟩
  have z2 := hb2.size
  have c2 := Below.cells hb2
  have f2 := Below.frozens hb2
  try simp only [World.size_alloc, World.size_setCell, World.size_drew] at z2 c2 f2
  go_wp2_with fail
  refine (D0.out _).mono ?_
  rintro e w3 ⟨rfl, hb3⟩
  have z3 := hb3.size
  have c3 := Below.cells hb3
  have f3 := Below.frozens hb3
  try simp only [World.size_alloc, World.size_setCell, World.size_drew] at z3 c3 f3
  go_wp2_with fail
  refine wp_region_quiet_all (Ext _) (by kernel_rfl) (by kernel_rfl) (Ext.drawn _) ?_
  repeat (first | (refine BigFrame.wpQuiet_skip rfl ?_) | go_big_quiet_step (fail) | (refine BigFrame.wpQuiet_want rfl (fun K hK => ?_); apply Exists.intro; refine ⟨fun w2 h2 => ?_, ?_⟩; (next => (have g1 := Below.cells h2.below; have g2 := Below.frozens h2.below; (try simp only [World.size_alloc, World.size_setCell] at g1 g2); first | (go_simp; (go_at_call 48; refine h2.calls (N5.out _))) | (simp [go_sem, ↓IntWalk.iteOmega, *]; done) | (simp [go_sem, ↓IntWalk.iteOmega, *]; rfl)))); (go_simp; refine hK _ ?_; clear hK K))
  refine wpQuiet_nil ?_
  intro w4 h4
  have hb4 := h4.below
  clear h4
  have z4 := hb4.size
  have c4 := Below.cells hb4
  have f4 := Below.frozens hb4
  try simp only [World.size_alloc, World.size_setCell, World.size_drew] at z4 c4 f4
  go_wp2_with fail
  refine (within_any n 128 S _ (by omega) (by omega) HS.out).mono ?_
  rintro e w' ⟨rfl, rfl⟩
  go_wp2_with fail
  refine (N1.out _).mono ?_
  rintro e w5 ⟨rfl, hb5⟩
  have z5 := hb5.size
  have c5 := Below.cells hb5
  have f5 := Below.frozens hb5
  try simp only [World.size_alloc, World.size_setCell, World.size_drew] at z5 c5 f5
  go_wp2_with fail
  refine (HShl.out _).mono ?_
  rintro e w6 ⟨rfl, hb6⟩
  have z6 := hb6.size
  have c6 := Below.cells hb6
  have f6 := Below.frozens hb6
  try simp only [World.size_alloc, World.size_setCell, World.size_drew] at z6 c6 f6
  go_wp2_with fail
  refine (HDv.out _).mono ?_
  rintro e w7 ⟨rfl, hb7⟩
  have z7 := hb7.size
  have c7 := Below.cells hb7
  have f7 := Below.frozens hb7
  try simp only [World.size_alloc, World.size_setCell, World.size_drew] at z7 c7 f7
  go_wp2_with fail
  refine (HShr.out _).mono ?_
  rintro e w8 ⟨rfl, hb8⟩
  have z8 := hb8.size
  have c8 := Below.cells hb8
  have f8 := Below.frozens hb8
  try simp only [World.size_alloc, World.size_setCell, World.size_drew] at z8 c8 f8
  go_wp2_with fail
  refine (HShl2.out _).mono ?_
  rintro e w9 ⟨rfl, hb9⟩
  have z9 := hb9.size
  have c9 := Below.cells hb9
  have f9 := Below.frozens hb9
  try simp only [World.size_alloc, World.size_setCell, World.size_drew] at z9 c9 f9
  go_wp2_with fail
  refine (HSub.out _).mono ?_
  rintro e w10 ⟨rfl, hb10⟩
  have z10 := hb10.size
  have c10 := Below.cells hb10
  have f10 := Below.frozens hb10
  try simp only [World.size_alloc, World.size_setCell, World.size_drew] at z10 c10 f10
  go_wp2_with fail
  go_ret
  exact ⟨rfl, (by repeat (first | (with_reducible exact Below.refl _ _) | ((with_reducible refine Below.alloc ?_ ?_ _); rotate_left; (next => ((try dsimp only); (try simp only [World.size_alloc, World.size_setCell, World.size_drew]); omega))) | ((with_reducible refine Below.setCell ?_ ?_ _); rotate_left; (next => ((try dsimp only); (try simp only [World.size_alloc, World.size_setCell, World.size_drew]); omega))) | (with_reducible refine Below.drew ?_) | ((with_reducible refine Below.trans ?_ (Below.mono hb10 ?_)); rotate_left; (next => ((try dsimp only); (try simp only [World.size_alloc, World.size_setCell, World.size_drew]); omega))) | ((with_reducible refine Below.trans ?_ (Below.mono hb9 ?_)); rotate_left; (next => ((try dsimp only); (try simp only [World.size_alloc, World.size_setCell, World.size_drew]); omega))) | ((with_reducible refine Below.trans ?_ (Below.mono hb8 ?_)); rotate_left; (next => ((try dsimp only); (try simp only [World.size_alloc, World.size_setCell, World.size_drew]); omega))) | ((with_reducible refine Below.trans ?_ (Below.mono hb7 ?_)); rotate_left; (next => ((try dsimp only); (try simp only [World.size_alloc, World.size_setCell, World.size_drew]); omega))) | ((with_reducible refine Below.trans ?_ (Below.mono hb6 ?_)); rotate_left; (next => ((try dsimp only); (try simp only [World.size_alloc, World.size_setCell, World.size_drew]); omega))) | ((with_reducible refine Below.trans ?_ (Below.mono hb5 ?_)); rotate_left; (next => ((try dsimp only); (try simp only [World.size_alloc, World.size_setCell, World.size_drew]); omega))) | ((with_reducible refine Below.trans ?_ (Below.mono hb4 ?_)); rotate_left; (next => ((try dsimp only); (try simp only [World.size_alloc, World.size_setCell, World.size_drew]); omega))) | ((with_reducible refine Below.trans ?_ (Below.mono hb3 ?_)); rotate_left; (next => ((try dsimp only); (try simp only [World.size_alloc, World.size_setCell, World.size_drew]); omega))) | ((with_reducible refine Below.trans ?_ (Below.mono hb2 ?_)); rotate_left; (next => ((try dsimp only); (try simp only [World.size_alloc, World.size_setCell, World.size_drew]); omega))) | ((with_reducible refine Below.trans ?_ (Below.mono hb1 ?_)); rotate_left; (next => ((try dsimp only); (try simp only [World.size_alloc, World.size_setCell, World.size_drew]); omega)))))⟩
end Go.Proofs.Ytbmnekehgjcfkaa

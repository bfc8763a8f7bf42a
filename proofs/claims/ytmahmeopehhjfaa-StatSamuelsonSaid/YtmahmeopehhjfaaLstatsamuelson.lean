import Derived.Test.YtmahmeopehhjfaaSt
import Derived.Test.YtmahmeopehhjfaaP1
import Derived.Test.YtmahmeopehhjfaaW3
set_option linter.unusedSimpArgs false
set_option linter.unusedVariables false
namespace Go.Proofs.Ytmahmeopehhjfaa
open Go.RowKit

theorem same_below {P : Program} {f : FuncId} {args : Array Value} {w : World} {v : Value} (h : Calls P f args w fun e w' => e = .returned v ∧ w = w') : Calls P f args w fun e w' => e = .returned v ∧ Below w.heap.size w w' :=
  h.mono fun _ _ ⟨he, hw⟩ => ⟨he, hw ▸ Below.refl _ _⟩

set_option maxRecDepth 100000 in
set_option maxHeartbeats 8000000 in
theorem statSamuelson_walk (a : Option Addr) (len cap : Nat) (l : List Int) (p : Int) (w : World) (hin : InRow w a len cap l) (_ : (Lit.int .i64 p).wf = true) :
    Calls Try.prog 15 #[.slice a len cap, .int .i64 p] w fun e w' =>
      e = .returned (.bool true) ∧ Below w.heap.size w w' := by
  obtain ⟨ys, n, S, Q, X, hy, hn, hm, hb, hS, hQ, hX, hsp, ok⟩ := stat_pack l
  have hval : ∀ w', InRow w' a len cap l → _ := fun w' h => values_at a len cap l w' h ys n hy hn
  have HVal := Lib.hid hval
  have HIn := Lib.hid hin
  have qa := alloc_cells
  have qf := alloc_frozens
  rcases Nat.eq_zero_or_pos n with h0 | h0
  · subst h0
    clear hval hin hb hn hy ok hsp hS hQ hX hm
    go_enter Try.func15, Try.ntmps15
    go_wp2_with fail
    refine (begun_ok _).mono ?_
    rintro e w1 ⟨rfl, hb1⟩
    have z1 := hb1.size
    have c1 := Below.cells hb1
    have f1 := Below.frozens hb1
    try simp only [World.size_alloc, World.size_setCell, World.size_drew] at z1 c1 f1
    go_wp2_with fail
    refine (HVal.out _ (HIn.out.below (by repeat (first | (with_reducible exact Below.refl _ _) | ((with_reducible refine Below.alloc ?_ ?_ _); rotate_left; (next => ((try dsimp only); (try simp only [World.size_alloc, World.size_setCell, World.size_drew]); omega))) | ((with_reducible refine Below.setCell ?_ ?_ _); rotate_left; (next => ((try dsimp only); (try simp only [World.size_alloc, World.size_setCell, World.size_drew]); omega))) | (with_reducible refine Below.drew ?_) | ((with_reducible refine Below.trans ?_ (Below.mono hb1 ?_)); rotate_left; (next => ((try dsimp only); (try simp only [World.size_alloc, World.size_setCell, World.size_drew]); omega))))))).mono ?_
    rintro e w2 ⟨A, c, rfl, hrA, hb2⟩
    have RA := Lib.hid hrA.1
    have EA := Lib.hid hrA.1.each
    have IA := Lib.hid hrA
    have capA := hrA.2.1
    clear hrA
    have z2 := hb2.size
    have c2 := Below.cells hb2
    have f2 := Below.frozens hb2
    try simp only [World.size_alloc, World.size_setCell, World.size_drew] at z2 c2 f2
    go_wp2_with fail
    go_ret
    exact ⟨rfl, (by repeat (first | (with_reducible exact Below.refl _ _) | ((with_reducible refine Below.alloc ?_ ?_ _); rotate_left; (next => ((try dsimp only); (try simp only [World.size_alloc, World.size_setCell, World.size_drew]); omega))) | ((with_reducible refine Below.setCell ?_ ?_ _); rotate_left; (next => ((try dsimp only); (try simp only [World.size_alloc, World.size_setCell, World.size_drew]); omega))) | (with_reducible refine Below.drew ?_) | ((with_reducible refine Below.trans ?_ (Below.mono hb2 ?_)); rotate_left; (next => ((try dsimp only); (try simp only [World.size_alloc, World.size_setCell, World.size_drew]); omega))) | ((with_reducible refine Below.trans ?_ (Below.mono hb1 ?_)); rotate_left; (next => ((try dsimp only); (try simp only [World.size_alloc, World.size_setCell, World.size_drew]); omega)))))⟩
  · have hne : ((n : Int) == 0) = false := by simp; omega
    have bd := ok.bd
    have b1 := within_bd p (n := (n : Int)) (by omega)
    obtain ⟨j, hj⟩ := Int.eq_ofNat_of_zero_le b1.1
    rw [hj] at b1
    have hjn : j < n := by omega
    have hxm : ys.getD j 0 ∈ ys := by
      have : ys.getD j 0 = ys[j]'(by omega) := by simp [List.getD, show j < ys.length by omega]
      rw [this]; exact List.getElem_mem _
    have hsam := samuelson hxm
    have xb := hb _ hxm
    rw [hn, hS, hsp] at hsam
    obtain ⟨x, hx⟩ : ∃ x, ys.getD j 0 = x := ⟨_, rfl⟩
    rw [hx] at hsam xb
    have Xb : 0 ≤ X ∧ X ≤ 1152921504606846976 := by omega
    have nx := mul_bd (a := (n : Int)) (b := x) (A := 64) (B := 16777216) (by omega) xb
    obtain ⟨D, hD⟩ : ∃ D, (n : Int) * x - S = D := ⟨_, rfl⟩
    rw [hD] at hsam
    have Db : -1073741824 ≤ D ∧ D ≤ 1073741824 := by omega
    have hhi := mul_bd (a := (n : Int) - 1) (b := X) (A := 63) (B := 1152921504606846976) (by omega) Xb
    obtain ⟨H, hH⟩ : ∃ H, ((n : Int) - 1) * X = H := ⟨_, rfl⟩
    rw [hH] at hsam hhi
    obtain ⟨E, hE1, hE2⟩ : ∃ E, E * E = D * D ∧ ((D < -D ∧ E = -D) ∨ (¬ D < -D ∧ E = D)) := by
      by_cases c : D < -D
      · exact ⟨-D, Int.neg_mul_neg _ _, .inl ⟨c, rfl⟩⟩
      · exact ⟨D, rfl, .inr ⟨c, rfl⟩⟩
    rw [← hE1] at hsam
    have EE := sq_nonneg E
    have Eb : 0 ≤ E ∧ E ≤ 1073741824 := by omega
    have uE : U64 E := by unfold U64; omega
    have uP : U128 (E * E) := by unfold U128; omega
    have uH : U128 H := by unfold U128; omega
    have uX : U64 X := by unfold U64; omega
    have un : U64 ((n : Int) - 1) := by unfold U64; omega
    have e1 : IntKind.i64.wrap ((n : Int) * x) = n * x := IntWalk.i64_in _ (by omega)
    have e2 : IntKind.i64.wrap D = D := IntWalk.i64_in _ (by omega)
    have e3 : IntKind.i64.wrap (-D) = -D := IntWalk.i64_in _ (by omega)
    have e4 : IntKind.u64.wrap E = E := by rw [IntKind.wrap_u64]; omega
    have hcmp : ∃ z : Int, z ≤ 0 ∧ ∀ w', Calls Try.prog 46 #[.agg #[.int .u64 (hi (E * E)), .int .u64 (lo (E * E))], .agg #[.int .u64 (hi H), .int .u64 (lo H)]] w' fun e w'' => e = .returned (.int .i64 z) ∧ Below w'.heap.size w' w'' := by
      rcases Int.lt_or_le (E * E) H with c | c
      · exact ⟨-1, by omega, fun w' => cmp_lt (E * E) H (Wd.mk uP) (Wd.mk uH) c w'⟩
      · obtain rfl : H = E * E := by omega
        exact ⟨0, by omega, fun w' => cmp_eq (E * E) (Wd.mk uP) (Wd.mk uP) w'⟩
    obtain ⟨z, hz, hcmp⟩ := hcmp
    have hsum : ∀ A c w', Row w' A n ys → _ := fun A c w' h => sums_ok A n c ys S Q w' h hm hb hS hQ
    have hspr : ∀ w', _ := fun w' => spread_ok n S Q X ok hX w'
    have hnum1 : ∀ w', _ := fun w' => num_any ((n : Int) - 1) w' (by omega) (by omega)
    have hnum2 : ∀ w', _ := fun w' => num_any X w' (by omega) (by omega)
    have htim : ∀ w', _ := fun w' => times_ok ((n : Int) - 1) X H (Wd.lit un) (Wd.lit uX) hH uH w'
    have hmul : ∀ w', _ := fun w' => mul_any E E (E * E) w' uE uE rfl
    have hwit : ∀ w', _ := fun w' => same_below (within_any p n j w' (by omega) (by omega) hj)
    have HSum := Lib.hid hsum
    have HSpr := Lib.hid hspr
    have HN1 := Lib.hid hnum1
    have HN2 := Lib.hid hnum2
    have HTim := Lib.hid htim
    have HMul := Lib.hid hmul
    have HCmp := Lib.hid hcmp
    have HWit := Lib.hid hwit
    have HX := Lib.hid hx
    have zd : decide (z ≤ 0) = true := by simpa using hz
    clear hval hsum hspr hnum1 hnum2 htim hmul hcmp hwit hin hb hn hy ok hsp hS hQ hX hx hxm hsam hH hj hE1 uE uP uH uX un
    have em : max D (-D) = E := by omega
    rcases hE2 with ⟨q, rfl⟩ | ⟨q, rfl⟩
    all_goals
      go_enter Try.func15, Try.ntmps15
      go_wp2_with fail
      refine (begun_ok _).mono ?_
      rintro e w1 ⟨rfl, hb1⟩
      have z1 := hb1.size
      have c1 := Below.cells hb1
      have f1 := Below.frozens hb1
      try simp only [World.size_alloc, World.size_setCell, World.size_drew] at z1 c1 f1
      go_wp2_with fail
      refine (HVal.out _ (HIn.out.below (by repeat (first | (with_reducible exact Below.refl _ _) | ((with_reducible refine Below.alloc ?_ ?_ _); rotate_left; (next => ((try dsimp only); (try simp only [World.size_alloc, World.size_setCell, World.size_drew]); omega))) | ((with_reducible refine Below.setCell ?_ ?_ _); rotate_left; (next => ((try dsimp only); (try simp only [World.size_alloc, World.size_setCell, World.size_drew]); omega))) | (with_reducible refine Below.drew ?_) | ((with_reducible refine Below.trans ?_ (Below.mono hb1 ?_)); rotate_left; (next => ((try dsimp only); (try simp only [World.size_alloc, World.size_setCell, World.size_drew]); omega))))))).mono ?_
      rintro e w2 ⟨A, c, rfl, hrA, hb2⟩
      have RA := Lib.hid hrA.1
      have EA := Lib.hid hrA.1.each
      have IA := Lib.hid hrA
      have capA := hrA.2.1
      clear hrA
      have z2 := hb2.size
      have c2 := Below.cells hb2
      have f2 := Below.frozens hb2
      try simp only [World.size_alloc, World.size_setCell, World.size_drew] at z2 c2 f2
      go_wp2_with fail
      refine (HSum.out A c _ RA.out).mono ?_
      rintro e w3 ⟨rfl, hb3⟩
      have z3 := hb3.size
      have c3 := Below.cells hb3
      have f3 := Below.frozens hb3
      try simp only [World.size_alloc, World.size_setCell, World.size_drew] at z3 c3 f3
      go_wp2_with fail
      refine (HSpr.out _).mono ?_
      rintro e w4 ⟨rfl, hb4⟩
      have z4 := hb4.size
      have c4 := Below.cells hb4
      have f4 := Below.frozens hb4
      try simp only [World.size_alloc, World.size_setCell, World.size_drew] at z4 c4 f4
      go_wp2_with fail
      have g0 : w4.cell? ⟨w3.heap.size, 1, none⟩ = some (.int .i64 S) := by simp [go_sem, ↓IntWalk.iteOmega, *]
      have bel4 : Below w.heap.size w w4 := (by repeat (first | (with_reducible exact Below.refl _ _) | ((with_reducible refine Below.alloc ?_ ?_ _); rotate_left; (next => ((try dsimp only); (try simp only [World.size_alloc, World.size_setCell, World.size_drew]); omega))) | ((with_reducible refine Below.setCell ?_ ?_ _); rotate_left; (next => ((try dsimp only); (try simp only [World.size_alloc, World.size_setCell, World.size_drew]); omega))) | (with_reducible refine Below.drew ?_) | ((with_reducible refine Below.trans ?_ (Below.mono hb4 ?_)); rotate_left; (next => ((try dsimp only); (try simp only [World.size_alloc, World.size_setCell, World.size_drew]); omega))) | ((with_reducible refine Below.trans ?_ (Below.mono hb3 ?_)); rotate_left; (next => ((try dsimp only); (try simp only [World.size_alloc, World.size_setCell, World.size_drew]); omega))) | ((with_reducible refine Below.trans ?_ (Below.mono hb2 ?_)); rotate_left; (next => ((try dsimp only); (try simp only [World.size_alloc, World.size_setCell, World.size_drew]); omega))) | ((with_reducible refine Below.trans ?_ (Below.mono hb1 ?_)); rotate_left; (next => ((try dsimp only); (try simp only [World.size_alloc, World.size_setCell, World.size_drew]); omega)))))
      obtain ⟨b, off, hA, ltb, hcl⟩ := (RA.out.below (w' := w4) (by repeat (first | (with_reducible exact Below.refl _ _) | ((with_reducible refine Below.alloc ?_ ?_ _); rotate_left; (next => ((try dsimp only); (try simp only [World.size_alloc, World.size_setCell, World.size_drew]); omega))) | ((with_reducible refine Below.setCell ?_ ?_ _); rotate_left; (next => ((try dsimp only); (try simp only [World.size_alloc, World.size_setCell, World.size_drew]); omega))) | (with_reducible refine Below.drew ?_) | ((with_reducible refine Below.trans ?_ (Below.mono hb4 ?_)); rotate_left; (next => ((try dsimp only); (try simp only [World.size_alloc, World.size_setCell, World.size_drew]); omega))) | ((with_reducible refine Below.trans ?_ (Below.mono hb3 ?_)); rotate_left; (next => ((try dsimp only); (try simp only [World.size_alloc, World.size_setCell, World.size_drew]); omega)))))).each j hjn
      subst hA
      rw [HX.out] at hcl
      have lt3 : w3.heap.size < w4.heap.size := by omega
      clear c1 c2 c3 c4 f1 f2 f3 f4 z1 z2 z3 z4 hb1 hb2 hb3 hb4
      refine wp_region_quiet_all (Ext _) (by kernel_rfl) (by kernel_rfl) (Ext.drawn _) ?_
      repeat (first | (refine BigFrame.wpQuiet_skip rfl ?_) | go_big_quiet_step (fail) | (refine BigFrame.wpQuiet_want rfl (fun K hK => ?_); apply Exists.intro; refine ⟨fun w2 h2 => ?_, ?_⟩; (next => (have g1 := Below.cells h2.below; have g2 := Below.frozens h2.below; (try simp only [World.size_alloc, World.size_setCell] at g1 g2); first | (go_simp; (go_at_call 23; refine h2.calls (HWit.out _))) | (simp [go_sem, ↓IntWalk.iteOmega, *]; done) | (simp [go_sem, ↓IntWalk.iteOmega, *]; rfl)))); (go_simp; refine hK _ ?_; clear hK K))
      refine wpQuiet_nil ?_
      intro w5 h5
      have hb5 := h5.below
      clear h5
      have z5 := hb5.size
      have c5 := Below.cells hb5
      have f5 := Below.frozens hb5
      try simp only [World.size_alloc, World.size_setCell, World.size_drew] at z5 c5 f5
      go_wp2_with fail
      refine (HN1.out _).mono ?_
      rintro e w6 ⟨rfl, hb6⟩
      have z6 := hb6.size
      have c6 := Below.cells hb6
      have f6 := Below.frozens hb6
      try simp only [World.size_alloc, World.size_setCell, World.size_drew] at z6 c6 f6
      go_wp2_with fail
      refine (HN2.out _).mono ?_
      rintro e w7 ⟨rfl, hb7⟩
      have z7 := hb7.size
      have c7 := Below.cells hb7
      have f7 := Below.frozens hb7
      try simp only [World.size_alloc, World.size_setCell, World.size_drew] at z7 c7 f7
      go_wp2_with fail
      refine (HTim.out _).mono ?_
      rintro e w8 ⟨rfl, hb8⟩
      have z8 := hb8.size
      have c8 := Below.cells hb8
      have f8 := Below.frozens hb8
      try simp only [World.size_alloc, World.size_setCell, World.size_drew] at z8 c8 f8
      go_wp2_with fail
      refine wp_region_quiet_all (Ext _) (by kernel_rfl) (by kernel_rfl) (Ext.drawn _) ?_
      repeat (first | (refine BigFrame.wpQuiet_skip rfl ?_) | go_big_quiet_step (fail) | (refine BigFrame.wpQuiet_want rfl (fun K hK => ?_); apply Exists.intro; refine ⟨fun w2 h2 => ?_, ?_⟩; (next => (have g1 := Below.cells h2.below; have g2 := Below.frozens h2.below; (try simp only [World.size_alloc, World.size_setCell] at g1 g2); first | (go_simp; (first | (go_at_call 47; with_reducible refine h2.calls (HMul.out _)) | (go_at_call 46; with_reducible refine h2.calls (HCmp.out _)))) | (simp [go_sem, ↓IntWalk.iteOmega, *]; done) | (simp [go_sem, ↓IntWalk.iteOmega, *]; rfl)))); (go_simp; refine hK _ ?_; clear hK K))
      refine wpQuiet_nil ?_
      intro w9 h9
      have hb9 := h9.below
      clear h9
      have z9 := hb9.size
      have c9 := Below.cells hb9
      have f9 := Below.frozens hb9
      try simp only [World.size_alloc, World.size_setCell, World.size_drew] at z9 c9 f9
      go_wp2_with fail
      go_ret
      exact ⟨rfl, Below.trans bel4 (Below.mono (by repeat (first | (with_reducible exact Below.refl _ _) | ((with_reducible refine Below.alloc ?_ ?_ _); rotate_left; (next => ((try dsimp only); (try simp only [World.size_alloc, World.size_setCell, World.size_drew]); omega))) | ((with_reducible refine Below.setCell ?_ ?_ _); rotate_left; (next => ((try dsimp only); (try simp only [World.size_alloc, World.size_setCell, World.size_drew]); omega))) | (with_reducible refine Below.drew ?_) | ((with_reducible refine Below.trans ?_ (Below.mono hb9 ?_)); rotate_left; (next => ((try dsimp only); (try simp only [World.size_alloc, World.size_setCell, World.size_drew]); omega))) | ((with_reducible refine Below.trans ?_ (Below.mono hb8 ?_)); rotate_left; (next => ((try dsimp only); (try simp only [World.size_alloc, World.size_setCell, World.size_drew]); omega))) | ((with_reducible refine Below.trans ?_ (Below.mono hb7 ?_)); rotate_left; (next => ((try dsimp only); (try simp only [World.size_alloc, World.size_setCell, World.size_drew]); omega))) | ((with_reducible refine Below.trans ?_ (Below.mono hb6 ?_)); rotate_left; (next => ((try dsimp only); (try simp only [World.size_alloc, World.size_setCell, World.size_drew]); omega))) | ((with_reducible refine Below.trans ?_ (Below.mono hb5 ?_)); rotate_left; (next => ((try dsimp only); (try simp only [World.size_alloc, World.size_setCell, World.size_drew]); omega))))) bel4.size)⟩
end Go.Proofs.Ytmahmeopehhjfaa

import Derived.Test.YtbmnekehgjcfkaaTc
set_option linter.unusedSimpArgs false
set_option linter.unusedVariables false
namespace Go.Proofs.Ytbmnekehgjcfkaa
open Go.RowKit

set_option maxRecDepth 100000 in
set_option maxHeartbeats 4000000 in
theorem tailBoth_walk (a : Option Addr) (len cap : Nat) (l : List Int) (p : Int) (w : World) (hin : InRow w a len cap l) (_ : (Lit.int .i64 p).wf = true) :
    Calls Try.prog 24 #[.slice a len cap, .int .i64 p] w fun e w' =>
      e = .returned (.bool true) ∧ Below w.heap.size w w' := by
  obtain ⟨ys, n, S, Q, X, hy, hn, hm, hb, hS, hQ, hX, hsp, ok⟩ := stat_pack l
  have b1 := within_bd p (n := 536870912) (by omega)
  obtain ⟨P, e_P⟩ : ∃ z_, within p 536870912 = z_ := ⟨_, rfl⟩
  rw [e_P] at b1
  have HP := Lib.hid e_P
  clear e_P
  have x0 : 0 ≤ X := by rw [← hsp]; exact spr_nonneg ys
  have hval : ∀ w', InRow w' a len cap l → _ := fun w' h => values_at a len cap l w' h ys n hy hn
  have hsum : ∀ A c w', Row w' A n ys → _ := fun A c w' h => sums_ok A n c ys S Q w' h hm hb hS hQ
  have HVal := Lib.hid hval
  have HSum := Lib.hid hsum
  have HIn := Lib.hid hin
  have C0 := Lib.hid (fun w => cheb_none 1 (by omega) (by omega) w)
  have C1 := Lib.hid (fun w => cheb_ok 2 40 1000 400 10 2 (by unfold SumsOK; omega) (by omega) (by omega) (by omega) (by decide) w)
  have qa := alloc_cells
  have qf := alloc_frozens
  rcases Nat.eq_zero_or_pos n with rfl | h0
  · clear hval hsum hin hb hn hy ok hsp hS hQ hX
    go_enter Try.func24, Try.ntmps24
    go_wp2_with fail
    refine (C0.out _).mono ?_
    rintro e w1 ⟨rfl, hb1⟩
    have z1 := hb1.size
    have c1 := Below.cells hb1
    have f1 := Below.frozens hb1
    try simp only [World.size_alloc, World.size_setCell, World.size_drew] at z1 c1 f1
    go_wp2_with fail
    refine (C1.out _).mono ?_
    rintro e w2 ⟨rfl, hb2⟩
    have z2 := hb2.size
    have c2 := Below.cells hb2
    have f2 := Below.frozens hb2
    try simp only [World.size_alloc, World.size_setCell, World.size_drew] at z2 c2 f2
    go_wp2_with fail
    refine (HVal.out _ (HIn.out.below (by repeat (first | (with_reducible exact Below.refl _ _) | ((with_reducible refine Below.alloc ?_ ?_ _); rotate_left; (next => ((try dsimp only); (try simp only [World.size_alloc, World.size_setCell, World.size_drew]); omega))) | ((with_reducible refine Below.setCell ?_ ?_ _); rotate_left; (next => ((try dsimp only); (try simp only [World.size_alloc, World.size_setCell, World.size_drew]); omega))) | (with_reducible refine Below.drew ?_) | ((with_reducible refine Below.trans ?_ (Below.mono hb2 ?_)); rotate_left; (next => ((try dsimp only); (try simp only [World.size_alloc, World.size_setCell, World.size_drew]); omega))) | ((with_reducible refine Below.trans ?_ (Below.mono hb1 ?_)); rotate_left; (next => ((try dsimp only); (try simp only [World.size_alloc, World.size_setCell, World.size_drew]); omega))))))).mono ?_
    rintro e w3 ⟨A, c, rfl, hrA, hb3⟩
    have RA := Lib.hid hrA.1
    have EA := Lib.hid hrA.1.each
    have IA := Lib.hid hrA
    have capA := hrA.2.1
    clear hrA
    have z3 := hb3.size
    have c3 := Below.cells hb3
    have f3 := Below.frozens hb3
    try simp only [World.size_alloc, World.size_setCell, World.size_drew] at z3 c3 f3
    go_wp2_with fail
    go_ret
    exact ⟨rfl, (by repeat (first | (with_reducible exact Below.refl _ _) | ((with_reducible refine Below.alloc ?_ ?_ _); rotate_left; (next => ((try dsimp only); (try simp only [World.size_alloc, World.size_setCell, World.size_drew]); omega))) | ((with_reducible refine Below.setCell ?_ ?_ _); rotate_left; (next => ((try dsimp only); (try simp only [World.size_alloc, World.size_setCell, World.size_drew]); omega))) | (with_reducible refine Below.drew ?_) | ((with_reducible refine Below.trans ?_ (Below.mono hb3 ?_)); rotate_left; (next => ((try dsimp only); (try simp only [World.size_alloc, World.size_setCell, World.size_drew]); omega))) | ((with_reducible refine Below.trans ?_ (Below.mono hb2 ?_)); rotate_left; (next => ((try dsimp only); (try simp only [World.size_alloc, World.size_setCell, World.size_drew]); omega))) | ((with_reducible refine Below.trans ?_ (Below.mono hb1 ?_)); rotate_left; (next => ((try dsimp only); (try simp only [World.size_alloc, World.size_setCell, World.size_drew]); omega)))))⟩
  · have hne : ((n : Int) == 0) = false := by simp; omega
    have bd := ok.bd
    obtain ⟨D, hD⟩ : ∃ D, 1 + P = D := ⟨_, rfl⟩
    have Db : 1 ≤ D ∧ D ≤ 536870912 := by omega
    obtain ⟨G, hG⟩ : ∃ G, (S + n - 1) / (n : Int) = G := ⟨_, rfl⟩
    have g1 : n * G ≤ S + n - 1 ∧ S + n - 1 < n * G + n := by
      have a := Int.emod_add_mul_ediv (S + n - 1) (n : Int)
      have b := Int.emod_nonneg (S + n - 1) (show (n : Int) ≠ 0 by omega)
      have c := Int.emod_lt_of_pos (S + n - 1) (show (0 : Int) < n by omega)
      rw [hG] at a; omega
    have g0 : 0 ≤ G ∧ G ≤ 16777217 := by
      rw [← hG]
      refine ⟨Int.ediv_nonneg (by omega) (by omega), ?_⟩
      have : (S + n - 1) / (n : Int) < 16777218 := Int.ediv_lt_of_lt_mul (by omega) (by have := ok.2.2.2.1; omega)
      omega
    have ht : (n : Int) * D ≤ n * (G + D) - S := by rw [Int.mul_add]; omega
    have cc := cant_cheb (s := S) (t := G + D) (show (1 : Int) ≤ n by omega) x0 Db.1 ht
    obtain ⟨M, e_M⟩ : ∃ z_, cant (n : Int) S X (G + D) = z_ := ⟨_, rfl⟩
    rw [e_M] at cc
    have HM := Lib.hid e_M
    clear e_M
    obtain ⟨K, e_K⟩ : ∃ z_, cheb (n : Int) X D = z_ := ⟨_, rfl⟩
    rw [e_K] at cc
    have HK := Lib.hid e_K
    clear e_K
    have hm1 : ∀ w', _ := fun w' => cant_ok n S Q X (G + D) M ok hX (by omega) HM.out w'
    have hm2 : ∀ w', _ := fun w' => cheb_ok n S Q X D K ok (by omega) hX (by omega) HK.out w'
    have HM1 := Lib.hid hm1
    have HM2 := Lib.hid hm2
    have sb : 0 ≤ S ∧ S ≤ 1073741824 := by omega
    clear hval hsum hin hb hn hy ok hsp hS hQ hX hm1 hm2 g1 ht bd
    go_enter Try.func24, Try.ntmps24
    go_wp2_with fail
    refine (C0.out _).mono ?_
    rintro e w1 ⟨rfl, hb1⟩
    have z1 := hb1.size
    have c1 := Below.cells hb1
    have f1 := Below.frozens hb1
    try simp only [World.size_alloc, World.size_setCell, World.size_drew] at z1 c1 f1
    go_wp2_with fail
    refine (C1.out _).mono ?_
    rintro e w2 ⟨rfl, hb2⟩
    have z2 := hb2.size
    have c2 := Below.cells hb2
    have f2 := Below.frozens hb2
    try simp only [World.size_alloc, World.size_setCell, World.size_drew] at z2 c2 f2
    go_wp2_with fail
    refine (HVal.out _ (HIn.out.below (by repeat (first | (with_reducible exact Below.refl _ _) | ((with_reducible refine Below.alloc ?_ ?_ _); rotate_left; (next => ((try dsimp only); (try simp only [World.size_alloc, World.size_setCell, World.size_drew]); omega))) | ((with_reducible refine Below.setCell ?_ ?_ _); rotate_left; (next => ((try dsimp only); (try simp only [World.size_alloc, World.size_setCell, World.size_drew]); omega))) | (with_reducible refine Below.drew ?_) | ((with_reducible refine Below.trans ?_ (Below.mono hb2 ?_)); rotate_left; (next => ((try dsimp only); (try simp only [World.size_alloc, World.size_setCell, World.size_drew]); omega))) | ((with_reducible refine Below.trans ?_ (Below.mono hb1 ?_)); rotate_left; (next => ((try dsimp only); (try simp only [World.size_alloc, World.size_setCell, World.size_drew]); omega))))))).mono ?_
    rintro e w3 ⟨A, c, rfl, hrA, hb3⟩
    have RA := Lib.hid hrA.1
    have EA := Lib.hid hrA.1.each
    have IA := Lib.hid hrA
    have capA := hrA.2.1
    clear hrA
    have z3 := hb3.size
    have c3 := Below.cells hb3
    have f3 := Below.frozens hb3
    try simp only [World.size_alloc, World.size_setCell, World.size_drew] at z3 c3 f3
    go_wp2_with fail
    refine (within_any p 536870912 P _ (by omega) (by omega) HP.out).mono ?_
    rintro e w' ⟨rfl, rfl⟩
    go_wp2_with fail
    refine (HSum.out A c _ RA.out).mono ?_
    rintro e w4 ⟨rfl, hb4⟩
    have z4 := hb4.size
    have c4 := Below.cells hb4
    have f4 := Below.frozens hb4
    try simp only [World.size_alloc, World.size_setCell, World.size_drew] at z4 c4 f4
    go_wp2_with fail
    refine (HM1.out _).mono ?_
    rintro e w5 ⟨rfl, hb5⟩
    have z5 := hb5.size
    have c5 := Below.cells hb5
    have f5 := Below.frozens hb5
    try simp only [World.size_alloc, World.size_setCell, World.size_drew] at z5 c5 f5
    go_wp2_with fail
    refine (HM2.out _).mono ?_
    rintro e w6 ⟨rfl, hb6⟩
    have z6 := hb6.size
    have c6 := Below.cells hb6
    have f6 := Below.frozens hb6
    try simp only [World.size_alloc, World.size_setCell, World.size_drew] at z6 c6 f6
    go_wp2_with fail
    go_ret
    exact ⟨rfl, (by repeat (first | (with_reducible exact Below.refl _ _) | ((with_reducible refine Below.alloc ?_ ?_ _); rotate_left; (next => ((try dsimp only); (try simp only [World.size_alloc, World.size_setCell, World.size_drew]); omega))) | ((with_reducible refine Below.setCell ?_ ?_ _); rotate_left; (next => ((try dsimp only); (try simp only [World.size_alloc, World.size_setCell, World.size_drew]); omega))) | (with_reducible refine Below.drew ?_) | ((with_reducible refine Below.trans ?_ (Below.mono hb6 ?_)); rotate_left; (next => ((try dsimp only); (try simp only [World.size_alloc, World.size_setCell, World.size_drew]); omega))) | ((with_reducible refine Below.trans ?_ (Below.mono hb5 ?_)); rotate_left; (next => ((try dsimp only); (try simp only [World.size_alloc, World.size_setCell, World.size_drew]); omega))) | ((with_reducible refine Below.trans ?_ (Below.mono hb4 ?_)); rotate_left; (next => ((try dsimp only); (try simp only [World.size_alloc, World.size_setCell, World.size_drew]); omega))) | ((with_reducible refine Below.trans ?_ (Below.mono hb3 ?_)); rotate_left; (next => ((try dsimp only); (try simp only [World.size_alloc, World.size_setCell, World.size_drew]); omega))) | ((with_reducible refine Below.trans ?_ (Below.mono hb2 ?_)); rotate_left; (next => ((try dsimp only); (try simp only [World.size_alloc, World.size_setCell, World.size_drew]); omega))) | ((with_reducible refine Below.trans ?_ (Below.mono hb1 ?_)); rotate_left; (next => ((try dsimp only); (try simp only [World.size_alloc, World.size_setCell, World.size_drew]); omega)))))⟩
end Go.Proofs.Ytbmnekehgjcfkaa

import Derived.Test.YtmahmeopehhjfaaTl
set_option linter.unusedSimpArgs false
set_option linter.unusedVariables false
namespace Go.Proofs.Ytmahmeopehhjfaa
open Go.RowKit

set_option maxHeartbeats 4000000 in
theorem tailFalls_walk (a : Option Addr) (len cap : Nat) (l : List Int) (p more : Int) (w : World) (hin : InRow w a len cap l) (_ : (Lit.int .i64 p).wf = true) (_ : (Lit.int .i64 more).wf = true) :
    Calls Try.prog 11 #[.slice a len cap, .int .i64 p, .int .i64 more] w fun e w' =>
      e = .returned (.bool true) ∧ Below w.heap.size w w' := by
  obtain ⟨ys, n, S, Q, X, hy, hn, hm, hb, hS, hQ, hX, hsp, ok⟩ := stat_pack l
  have b1 := within_bd p (n := 536870912) (by omega)
  obtain ⟨P, e_P⟩ : ∃ z_, within p 536870912 = z_ := ⟨_, rfl⟩
  rw [e_P] at b1
  have HP := Lib.hid e_P
  clear e_P
  have b2 := within_bd more (n := 536870912) (by omega)
  obtain ⟨R, e_R⟩ : ∃ z_, within more 536870912 = z_ := ⟨_, rfl⟩
  rw [e_R] at b2
  have HR := Lib.hid e_R
  clear e_R
  have c1 := cnt_anti (s := 1 + P) (t := 1 + P + R) (by omega) ys
  have bd := ok.bd
  have q := quo_anti (s := S) (t := 1 + P) (u := 1 + P + R) (by omega) (by omega) (by omega)
  have m1 : markov n S (1 + P + R) ≤ markov n S (1 + P) := by unfold markov; split <;> split <;> omega
  obtain ⟨K, e_K⟩ : ∃ z_, cnt (1 + P) ys = z_ := ⟨_, rfl⟩
  rw [e_K] at c1
  have HK := Lib.hid e_K
  clear e_K
  obtain ⟨K2, e_K2⟩ : ∃ z_, cnt (1 + P + R) ys = z_ := ⟨_, rfl⟩
  rw [e_K2] at c1
  have HK2 := Lib.hid e_K2
  clear e_K2
  obtain ⟨M, e_M⟩ : ∃ z_, markov n S (1 + P) = z_ := ⟨_, rfl⟩
  rw [e_M] at m1
  have HM := Lib.hid e_M
  clear e_M
  obtain ⟨M2, e_M2⟩ : ∃ z_, markov n S (1 + P + R) = z_ := ⟨_, rfl⟩
  rw [e_M2] at m1
  have HM2 := Lib.hid e_M2
  clear e_M2
  have hval : ∀ w', InRow w' a len cap l → _ := fun w' h => values_at a len cap l w' h ys n hy hn
  have hsum : ∀ A c w', Row w' A n ys → _ := fun A c w' h => sums_ok A n c ys S Q w' h hm hb hS hQ
  have hcnt : ∀ t K, cnt t ys = K → ∀ A c w', Row w' A n ys → _ := fun t K hK A c w' h => count_ok A n c ys t K w' h hm hb hK
  have HVal := Lib.hid hval
  have HSum := Lib.hid hsum
  have HCnt := Lib.hid hcnt
  have HOk := Lib.hid ok
  have HIn := Lib.hid hin
  have qa := alloc_cells
  have qf := alloc_frozens
  have lit : cnt 5 [1, 5, 9] = 2 := by decide
  clear hval hsum hcnt hin hb hn hy ok hsp hS hQ hX q
  have HLit := Lib.hid lit
  clear lit
  go_enter Try.func11, Try.ntmps11
  go_wp2_with fail
  refine (count_ok _ 3 3 [1, 5, 9] 5 2 _ (Row.lit _ _ [1, 5, 9] 3 rfl) (by omega) (by decide) HLit.out).mono ?_
  rintro e w' ⟨rfl, rfl⟩
  go_wp2_with fail
  refine (HVal.out _ (HIn.out.below (by repeat (first | (with_reducible exact Below.refl _ _) | ((with_reducible refine Below.alloc ?_ ?_ _); rotate_left; (next => ((try dsimp only); (try simp only [World.size_alloc, World.size_setCell, World.size_drew]); omega))) | ((with_reducible refine Below.setCell ?_ ?_ _); rotate_left; (next => ((try dsimp only); (try simp only [World.size_alloc, World.size_setCell, World.size_drew]); omega))) | (with_reducible refine Below.drew ?_) | (refine Below.trans ?_ (by assumption)))))).mono ?_
  rintro e w1 ⟨A, c, rfl, hrA, hb1⟩
  have RA := Lib.hid hrA.1
  have EA := Lib.hid hrA.1.each
  have IA := Lib.hid hrA
  have capA := hrA.2.1
  clear hrA
  have z1 := hb1.size
  have c1 := Below.cells hb1
  have f1 := Below.frozens hb1
  try simp only [World.size_alloc, World.size_setCell, World.size_drew] at z1 c1 f1
  go_wp2_with fail
  refine (within_any p 536870912 P _ (by omega) (by omega) HP.out).mono ?_
  rintro e w' ⟨rfl, rfl⟩
  go_wp2_with fail
  refine (within_any more 536870912 R _ (by omega) (by omega) HR.out).mono ?_
  rintro e w' ⟨rfl, rfl⟩
  go_wp2_with fail
  refine (HCnt.out (1 + P) K HK.out A c _ RA.out).mono ?_
  rintro e w' ⟨rfl, rfl⟩
  go_wp2_with fail
  refine (HCnt.out (1 + P + R) K2 HK2.out A c _ RA.out).mono ?_
  rintro e w' ⟨rfl, rfl⟩
  go_wp2_with fail
  refine (HSum.out A c _ RA.out).mono ?_
  rintro e w2 ⟨rfl, hb2⟩
  have z2 := hb2.size
  have c2 := Below.cells hb2
  have f2 := Below.frozens hb2
  try simp only [World.size_alloc, World.size_setCell, World.size_drew] at z2 c2 f2
  go_wp2_with fail
  refine (markov_ok n S Q (1 + P) M HOk.out (by omega) (by omega) HM.out _).mono ?_
  rintro e w3 ⟨rfl, hb3⟩
  have z3 := hb3.size
  have c3 := Below.cells hb3
  have f3 := Below.frozens hb3
  try simp only [World.size_alloc, World.size_setCell, World.size_drew] at z3 c3 f3
  go_wp2_with fail
  refine (HSum.out A c _ (RA.out.below (by repeat (first | (with_reducible exact Below.refl _ _) | ((with_reducible refine Below.alloc ?_ ?_ _); rotate_left; (next => ((try dsimp only); (try simp only [World.size_alloc, World.size_setCell, World.size_drew]); omega))) | ((with_reducible refine Below.setCell ?_ ?_ _); rotate_left; (next => ((try dsimp only); (try simp only [World.size_alloc, World.size_setCell, World.size_drew]); omega))) | (with_reducible refine Below.drew ?_) | ((with_reducible refine Below.trans ?_ (Below.mono hb3 ?_)); rotate_left; (next => ((try dsimp only); (try simp only [World.size_alloc, World.size_setCell, World.size_drew]); omega))) | ((with_reducible refine Below.trans ?_ (Below.mono hb2 ?_)); rotate_left; (next => ((try dsimp only); (try simp only [World.size_alloc, World.size_setCell, World.size_drew]); omega))))))).mono ?_
  rintro e w4 ⟨rfl, hb4⟩
  have z4 := hb4.size
  have c4 := Below.cells hb4
  have f4 := Below.frozens hb4
  try simp only [World.size_alloc, World.size_setCell, World.size_drew] at z4 c4 f4
  go_wp2_with fail
  refine (markov_ok n S Q (1 + P + R) M2 HOk.out (by omega) (by omega) HM2.out _).mono ?_
  rintro e w5 ⟨rfl, hb5⟩
  have z5 := hb5.size
  have c5 := Below.cells hb5
  have f5 := Below.frozens hb5
  try simp only [World.size_alloc, World.size_setCell, World.size_drew] at z5 c5 f5
  go_wp2_with fail
  go_ret
  exact ⟨rfl, (by repeat (first | (with_reducible exact Below.refl _ _) | ((with_reducible refine Below.alloc ?_ ?_ _); rotate_left; (next => ((try dsimp only); (try simp only [World.size_alloc, World.size_setCell, World.size_drew]); omega))) | ((with_reducible refine Below.setCell ?_ ?_ _); rotate_left; (next => ((try dsimp only); (try simp only [World.size_alloc, World.size_setCell, World.size_drew]); omega))) | (with_reducible refine Below.drew ?_) | ((with_reducible refine Below.trans ?_ (Below.mono hb5 ?_)); rotate_left; (next => ((try dsimp only); (try simp only [World.size_alloc, World.size_setCell, World.size_drew]); omega))) | ((with_reducible refine Below.trans ?_ (Below.mono hb4 ?_)); rotate_left; (next => ((try dsimp only); (try simp only [World.size_alloc, World.size_setCell, World.size_drew]); omega))) | ((with_reducible refine Below.trans ?_ (Below.mono hb3 ?_)); rotate_left; (next => ((try dsimp only); (try simp only [World.size_alloc, World.size_setCell, World.size_drew]); omega))) | ((with_reducible refine Below.trans ?_ (Below.mono hb2 ?_)); rotate_left; (next => ((try dsimp only); (try simp only [World.size_alloc, World.size_setCell, World.size_drew]); omega))) | ((with_reducible refine Below.trans ?_ (Below.mono hb1 ?_)); rotate_left; (next => ((try dsimp only); (try simp only [World.size_alloc, World.size_setCell, World.size_drew]); omega)))))⟩
end Go.Proofs.Ytmahmeopehhjfaa

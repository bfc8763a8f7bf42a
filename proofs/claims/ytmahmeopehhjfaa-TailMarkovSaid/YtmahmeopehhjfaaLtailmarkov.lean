import Derived.Test.YtmahmeopehhjfaaTl
set_option linter.unusedSimpArgs false
set_option linter.unusedVariables false
namespace Go.Proofs.Ytmahmeopehhjfaa
open Go.RowKit

set_option maxHeartbeats 4000000 in
theorem tailMarkov_walk (a : Option Addr) (len cap : Nat) (l : List Int) (p : Int) (w : World) (hin : InRow w a len cap l) (_ : (Lit.int .i64 p).wf = true) :
    Calls Try.prog 10 #[.slice a len cap, .int .i64 p] w fun e w' =>
      e = .returned (.bool true) ∧ Below w.heap.size w w' := by
  obtain ⟨ys, n, S, Q, X, hy, hn, hm, hb, hS, hQ, hX, hsp, ok⟩ := stat_pack l
  have b1 := within_bd p (n := 1073741824) (by omega)
  obtain ⟨P, e_P⟩ : ∃ z_, within p 1073741824 = z_ := ⟨_, rfl⟩
  rw [e_P] at b1
  have HP := Lib.hid e_P
  clear e_P
  have c1 := cnt_bd (1 + P) ys
  have c2 := cnt_sum (t := 1 + P) (by omega) hb
  rw [hn] at c1
  rw [hS] at c2
  have bd := ok.bd
  obtain ⟨K, e_K⟩ : ∃ z_, cnt (1 + P) ys = z_ := ⟨_, rfl⟩
  rw [e_K] at c1 c2
  have HK := Lib.hid e_K
  clear e_K
  have c3 : K ≤ S / (1 + P) := (Int.le_ediv_iff_mul_le (by omega)).2 c2
  have q := quo_bd (s := S) (t := 1 + P) (by omega) (by omega)
  have m1 : K ≤ markov n S (1 + P) ∧ markov n S (1 + P) ≤ n := by unfold markov; split <;> omega
  obtain ⟨M, e_M⟩ : ∃ z_, markov n S (1 + P) = z_ := ⟨_, rfl⟩
  rw [e_M] at m1
  have HM := Lib.hid e_M
  clear e_M
  have hval : ∀ w', InRow w' a len cap l → _ := fun w' h => values_at a len cap l w' h ys n hy hn
  have hsum : ∀ A c w', Row w' A n ys → _ := fun A c w' h => sums_ok A n c ys S Q w' h hm hb hS hQ
  have hcnt : ∀ A c w', Row w' A n ys → _ := fun A c w' h => count_ok A n c ys (1 + P) K w' h hm hb HK.out
  have hmk : ∀ w', _ := fun w' => markov_ok n S Q (1 + P) M ok (by omega) (by omega) HM.out w'
  have HVal := Lib.hid hval
  have HSum := Lib.hid hsum
  have HCnt := Lib.hid hcnt
  have HMk := Lib.hid hmk
  have HIn := Lib.hid hin
  have qa := alloc_cells
  have qf := alloc_frozens
  clear hval hsum hcnt hmk hin hb hn hy ok hsp hS hQ hX c2 c3 q
  go_enter Try.func10, Try.ntmps10
  go_wp2_with fail
  refine (markov_ok 3 12 60 5 2 (by unfold SumsOK; omega) (by omega) (by omega) (by decide) _).mono ?_
  rintro e w1 ⟨rfl, hb1⟩
  have z1 := hb1.size
  have c1 := Below.cells hb1
  have f1 := Below.frozens hb1
  try simp only [World.size_alloc, World.size_setCell, World.size_drew] at z1 c1 f1
  go_wp2_with fail
  refine (HVal.out _ (HIn.out.below (by repeat (first | (with_reducible exact Below.refl _ _) | ((with_reducible refine Below.alloc ?_ ?_ _); rotate_left; (next => ((try dsimp only); (try simp only [World.size_alloc, World.size_setCell, World.size_drew]); omega))) | ((with_reducible refine Below.setCell ?_ ?_ _); rotate_left; (next => ((try dsimp only); (try simp only [World.size_alloc, World.size_setCell, World.size_drew]); omega))) | (with_reducible refine Below.drew ?_) | ((with_reducible refine Below.trans ?_ (Below.mono hb1 ?_)); rotate_left; (next => ((try dsimp only); (try simp only [World.size_alloc, World.size_setCell, World.size_drew]); omega))))))).mono ?_
  rintro e w2 ⟨A, c, rfl, hrA, hb2⟩
  have RA := Lib.hid hrA.1
  have EA := Lib.hid hrA.1.each
  have IA := Lib.hid hrA
  have capA := hrA.2.1
  clear hrA
  have z2 := hb2.size
  have c2 := Below.cells hb2
  have f2 := Below.frozens hb2
  try simp only [World.size_alloc, World.size_setCell, World.size_drew] at z2 c2 f2
  go_wp2_with fail
  refine (within_any p 1073741824 P _ (by omega) (by omega) HP.out).mono ?_
  rintro e w' ⟨rfl, rfl⟩
  go_wp2_with fail
  refine (HCnt.out A c _ RA.out).mono ?_
  rintro e w' ⟨rfl, rfl⟩
  go_wp2_with fail
  refine (HSum.out A c _ RA.out).mono ?_
  rintro e w3 ⟨rfl, hb3⟩
  have z3 := hb3.size
  have c3 := Below.cells hb3
  have f3 := Below.frozens hb3
  try simp only [World.size_alloc, World.size_setCell, World.size_drew] at z3 c3 f3
  go_wp2_with fail
  refine (HMk.out _).mono ?_
  rintro e w4 ⟨rfl, hb4⟩
  have z4 := hb4.size
  have c4 := Below.cells hb4
  have f4 := Below.frozens hb4
  try simp only [World.size_alloc, World.size_setCell, World.size_drew] at z4 c4 f4
  go_wp2_with fail
  go_ret
  exact ⟨rfl, (by repeat (first | (with_reducible exact Below.refl _ _) | ((with_reducible refine Below.alloc ?_ ?_ _); rotate_left; (next => ((try dsimp only); (try simp only [World.size_alloc, World.size_setCell, World.size_drew]); omega))) | ((with_reducible refine Below.setCell ?_ ?_ _); rotate_left; (next => ((try dsimp only); (try simp only [World.size_alloc, World.size_setCell, World.size_drew]); omega))) | (with_reducible refine Below.drew ?_) | ((with_reducible refine Below.trans ?_ (Below.mono hb4 ?_)); rotate_left; (next => ((try dsimp only); (try simp only [World.size_alloc, World.size_setCell, World.size_drew]); omega))) | ((with_reducible refine Below.trans ?_ (Below.mono hb3 ?_)); rotate_left; (next => ((try dsimp only); (try simp only [World.size_alloc, World.size_setCell, World.size_drew]); omega))) | ((with_reducible refine Below.trans ?_ (Below.mono hb2 ?_)); rotate_left; (next => ((try dsimp only); (try simp only [World.size_alloc, World.size_setCell, World.size_drew]); omega))) | ((with_reducible refine Below.trans ?_ (Below.mono hb1 ?_)); rotate_left; (next => ((try dsimp only); (try simp only [World.size_alloc, World.size_setCell, World.size_drew]); omega)))))⟩
end Go.Proofs.Ytmahmeopehhjfaa

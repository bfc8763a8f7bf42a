import Derived.Test.YtbmnekehgjcfkaaTc
set_option linter.unusedSimpArgs false
set_option linter.unusedVariables false
namespace Go.Proofs.Ytbmnekehgjcfkaa
open Go.RowKit

set_option maxRecDepth 100000 in
set_option maxHeartbeats 4000000 in
theorem tailChebyshev_walk (a : Option Addr) (len cap : Nat) (l : List Int) (p : Int) (w : World) (hin : InRow w a len cap l) (_ : (Lit.int .i64 p).wf = true) :
    Calls Try.prog 23 #[.slice a len cap, .int .i64 p] w fun e w' =>
      e = .returned (.bool true) ∧ Below w.heap.size w w' := by
  obtain ⟨ys, n, S, Q, X, hy, hn, hm, hb, hS, hQ, hX, hsp, ok⟩ := stat_pack l
  have b1 := within_bd p (n := 1073741824) (by omega)
  obtain ⟨P, e_P⟩ : ∃ z_, within p 1073741824 = z_ := ⟨_, rfl⟩
  rw [e_P] at b1
  have HP := Lib.hid e_P
  clear e_P
  have x0 : 0 ≤ X := by rw [← hsp]; exact spr_nonneg ys
  obtain ⟨D, hD⟩ : ∃ D, 1 + P = D := ⟨_, rfl⟩
  have Db : 1 ≤ D ∧ D ≤ 1073741824 := by omega
  have bd := ok.bd
  obtain ⟨M, hM, hMK⟩ : ∃ M : Int, (∀ w, Calls Try.prog 65 #[.agg #[.int .i64 n, .int .i64 S, .int .i64 Q], .int .i64 D] w fun e w' => e = .returned (.tuple #[.int .i64 M, .int .i64 0]) ∧ Below w.heap.size w w') ∧ fcnt n S D ys ≤ M ∧ M ≤ n := by
    rcases Nat.eq_zero_or_pos n with rfl | h0
    · have hys : ys = [] := List.eq_nil_of_length_eq_zero hn
      subst hys
      have e1 : S = 0 := by rw [← hS]; rfl
      have e2 : Q = 0 := by rw [← hQ]; rfl
      subst e1 e2
      exact ⟨0, fun w => cheb_none D Db.1 Db.2 w, by simp [fcnt], by omega⟩
    · have c1 := cheb_cnt (d := D) (show (ys.length : Int) = n by omega) (by omega) Db.1 hS hsp
      exact ⟨_, fun w => cheb_ok n S Q X D _ ok (by omega) hX Db rfl w, c1, by unfold cheb; split <;> omega⟩
  have hval : ∀ w', InRow w' a len cap l → _ := fun w' h => values_at a len cap l w' h ys n hy hn
  have hsum : ∀ A c w', Row w' A n ys → _ := fun A c w' h => sums_ok A n c ys S Q w' h hm hb hS hQ
  have HVal := Lib.hid hval
  have HSum := Lib.hid hsum
  have HMM := Lib.hid hM
  have HIn := Lib.hid hin
  have HV := Lib.hid hb
  have HL := Lib.hid hn
  have nd := mul_bd (a := (n : Int)) (b := D) (A := 64) (B := 1073741824) (by omega) (by omega)
  have hMK2 := Lib.hid hMK.1
  have mn := hMK.2
  have m0 := (fcnt_bd n S D ys).1
  have hM0 : 0 ≤ M := by omega
  have sb : 0 ≤ S ∧ S ≤ 1073741824 := by omega
  have qa := alloc_cells
  have qf := alloc_frozens
  clear hval hsum hM hin hb hn hy ok hsp hS hQ hX bd hMK m0
  go_enter Try.func23, Try.ntmps23
  go_wp2_with fail
  refine (cheb_ok 2 4 10 4 1 2 (by unfold SumsOK; omega) (by omega) (by omega) (by omega) (by decide) _).mono ?_
  rintro e w1 ⟨rfl, hb1⟩
  have z1 := hb1.size
  have c1 := Below.cells hb1
  have f1 := Below.frozens hb1
  try simp only [World.size_alloc, World.size_setCell, World.size_drew] at z1 c1 f1
  go_wp2_with fail
  refine (HVal.out _ (HIn.out.below (by repeat (first | (with_reducible exact Below.refl _ _) | ((with_reducible refine Below.alloc ?_ ?_ _); rotate_left; (next => ((try dsimp only); (try simp only [World.size_alloc, World.size_setCell, World.size_drew]); omega))) | ((with_reducible refine Below.setCell ?_ ?_ _); rotate_left; (next => ((try dsimp only); (try simp only [World.size_alloc, World.size_setCell, World.size_drew]); omega))) | (with_reducible refine Below.drew ?_) | ((with_reducible refine Below.trans ?_ (Below.mono hb1 ?_)); rotate_left; (next => ((try dsimp only); (try simp only [World.size_alloc, World.size_setCell, World.size_drew]); omega))))))).mono ?_
  rintro e w2 ⟨A, c, rfl, hrA, hb2⟩
  have RA := Lib.hid hrA.1
  have EA := Lib.hid hrA.1.each
  have IA := Lib.hid hrA
  have capA := hrA.2.1
  clear hrA
  have z2 := hb2.size
  have c2 := Below.cells hb2
  have f2 := Below.frozens hb2
  try simp only [World.size_alloc, World.size_setCell, World.size_drew] at z2 c2 f2
  go_wp2_with fail
  refine (within_any p 1073741824 P _ (by omega) (by omega) HP.out).mono ?_
  rintro e w' ⟨rfl, rfl⟩
  go_wp2_with fail
  refine (HSum.out A c _ RA.out).mono ?_
  rintro e w3 ⟨rfl, hb3⟩
  have z3 := hb3.size
  have c3 := Below.cells hb3
  have f3 := Below.frozens hb3
  try simp only [World.size_alloc, World.size_setCell, World.size_drew] at z3 c3 f3
  go_wp2_with fail
  refine (HMM.out _).mono ?_
  rintro e w4 ⟨rfl, hb4⟩
  have z4 := hb4.size
  have c4 := Below.cells hb4
  have f4 := Below.frozens hb4
  try simp only [World.size_alloc, World.size_setCell, World.size_drew] at z4 c4 f4
  go_wp2_with fail
  have g1 : w4.cell? ⟨w3.heap.size, 1, none⟩ = some (.int .i64 S) := by simp [go_sem, ↓IntWalk.iteOmega, *]
  have bel4 := Lib.hid (show Below w.heap.size w w4 from (by repeat (first | (with_reducible exact Below.refl _ _) | ((with_reducible refine Below.alloc ?_ ?_ _); rotate_left; (next => ((try dsimp only); (try simp only [World.size_alloc, World.size_setCell, World.size_drew]); omega))) | ((with_reducible refine Below.setCell ?_ ?_ _); rotate_left; (next => ((try dsimp only); (try simp only [World.size_alloc, World.size_setCell, World.size_drew]); omega))) | (with_reducible refine Below.drew ?_) | ((with_reducible refine Below.trans ?_ (Below.mono hb4 ?_)); rotate_left; (next => ((try dsimp only); (try simp only [World.size_alloc, World.size_setCell, World.size_drew]); omega))) | ((with_reducible refine Below.trans ?_ (Below.mono hb3 ?_)); rotate_left; (next => ((try dsimp only); (try simp only [World.size_alloc, World.size_setCell, World.size_drew]); omega))) | ((with_reducible refine Below.trans ?_ (Below.mono hb2 ?_)); rotate_left; (next => ((try dsimp only); (try simp only [World.size_alloc, World.size_setCell, World.size_drew]); omega))) | ((with_reducible refine Below.trans ?_ (Below.mono hb1 ?_)); rotate_left; (next => ((try dsimp only); (try simp only [World.size_alloc, World.size_setCell, World.size_drew]); omega))))))
  have HE := Lib.hid (cells_below EA.out (w' := w4) (by repeat (first | (with_reducible exact Below.refl _ _) | ((with_reducible refine Below.alloc ?_ ?_ _); rotate_left; (next => ((try dsimp only); (try simp only [World.size_alloc, World.size_setCell, World.size_drew]); omega))) | ((with_reducible refine Below.setCell ?_ ?_ _); rotate_left; (next => ((try dsimp only); (try simp only [World.size_alloc, World.size_setCell, World.size_drew]); omega))) | (with_reducible refine Below.drew ?_) | ((with_reducible refine Below.trans ?_ (Below.mono hb4 ?_)); rotate_left; (next => ((try dsimp only); (try simp only [World.size_alloc, World.size_setCell, World.size_drew]); omega))) | ((with_reducible refine Below.trans ?_ (Below.mono hb3 ?_)); rotate_left; (next => ((try dsimp only); (try simp only [World.size_alloc, World.size_setCell, World.size_drew]); omega))))))
  clear c1 c2 c3 c4 f1 f2 f3 f4 z1 z2 z3 z4 hb1 hb2 hb3 hb4 qa qf
  go_loop [10, 40] (fun v i => ∃ (k : Nat) (F : Int), k ≤ n ∧ i = .int .i64 k ∧ v = .int .i64 F ∧ fcnt n S D (ys.take k) = F) (fun _ i => n - (intOf i).toNat)
  case atStart => exact ⟨0, 0, Nat.zero_le _, rfl, rfl, by simp [fcnt]⟩
  case round =>
    obtain ⟨k, F, hk, rfl, rfl, hF⟩ := hrel
    have d1 := fcnt_bd n S D (ys.take k)
    have hlen : (ys.take k).length ≤ 64 := by simp; omega
    rw [hF] at d1
    have d3 : 0 ≤ F ∧ F ≤ 64 := by omega
    by_cases hlt : k < n
    · have d2 := fcnt_snoc n S D ys (k := k) (by have := HL.out; omega)
      have hx2 := HV.out.get (k := k) (by have := HL.out; omega)
      rw [hF] at d2
      obtain ⟨bkx, offx, hAx, ltx, hrx⟩ := HE.out k hlt
      subst hAx
      obtain ⟨x, hvx, hxx⟩ := name_num hrx
      have HX := Lib.hid hvx
      clear hvx hrx
      rw [← HX.out] at d2 hx2
      have nx := mul_bd (a := (n : Int)) (b := x) (A := 64) (B := 16777216) (by omega) hx2
      clear d1 hlen hF
      obtain ⟨G, hG⟩ : ∃ G, max ((n : Int) * x - S) (-((n : Int) * x - S)) = G := ⟨_, rfl⟩
      rw [hG] at d2
      by_cases hc : (n : Int) * D ≤ G
      · rw [if_pos hc] at d2
        have D2 := Lib.hid d2
        clear d2
        go_wp2_with fail
        go_round
        case rel => exact ⟨k + 1, _, by omega, by go_num, rfl, D2.out⟩
        case measure => simp [intOf]; omega
      · rw [if_neg hc, Int.add_zero] at d2
        have D2 := Lib.hid d2
        clear d2
        go_wp2_with fail
        go_round
        case rel => exact ⟨k + 1, _, by omega, by go_num, rfl, D2.out⟩
        case measure => simp [intOf]; omega
    · obtain rfl : n = k := by omega
      rw [List.take_of_length_le (by have := HL.out; omega)] at hF
      have fm := hMK2.out
      rw [hF] at fm
      clear d1 hlen hF
      go_wp2_with fail
      go_ret
      exact ⟨rfl, bel4.out⟩
end Go.Proofs.Ytbmnekehgjcfkaa

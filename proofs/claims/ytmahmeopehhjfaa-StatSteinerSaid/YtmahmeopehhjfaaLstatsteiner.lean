import Derived.Test.YtmahmeopehhjfaaSt
import Derived.Test.YtmahmeopehhjfaaVal
set_option linter.unusedSimpArgs false
set_option linter.unusedVariables false
namespace Go.Proofs.Ytmahmeopehhjfaa
open Go.RowKit

theorem dsq_snoc (c : Int) (l : List Int) {k : Nat} (h : k < l.length) : dsq c (l.take (k + 1)) = dsq c (l.take k) + (l.getD k 0 - c) * (l.getD k 0 - c) := by
  rw [take_snoc l h, dsq_append]; simp [dsq]
theorem sq_le {a M : Int} (h : -M ≤ a) (h' : a ≤ M) : a * a ≤ M * M := by
  rcases Int.le_total 0 a with h0 | h0
  · exact Int.mul_le_mul h' h' h0 (by omega)
  · have h1 : (-a) * (-a) ≤ M * M := Int.mul_le_mul (by omega) (by omega) (by omega) (by omega)
    rwa [Int.neg_mul_neg] at h1
theorem dsq_bd {l : List Int} {c : Int} (h : Btw 0 16777216 l) (h0 : 0 ≤ c) (h1 : c ≤ 16777216) : 0 ≤ dsq c l ∧ dsq c l ≤ l.length * 281474976710656 := by
  induction l with
  | nil => simp [dsq]
  | cons x l ih =>
    have a := h.head
    have b := ih h.tail
    have d := sq_le (a := x - c) (M := 16777216) (by omega) (by omega)
    have e := sq_nonneg (x - c)
    simp only [dsq, List.length_cons, Int.natCast_add, Int.add_mul]
    omega

set_option maxHeartbeats 4000000 in
theorem statSteiner_walk (a : Option Addr) (len cap : Nat) (l : List Int) (x : Int) (w : World) (hin : InRow w a len cap l) (_ : (Lit.int .i64 x).wf = true) :
    Calls Try.prog 6 #[.slice a len cap, .int .i64 x] w fun e w' =>
      e = .returned (.bool true) ∧ Below w.heap.size w w' := by
  have b2 := within_bd x (n := 16777217) (by omega)
  obtain ⟨C, e_C⟩ : ∃ z_, within x 16777217 = z_ := ⟨_, rfl⟩
  rw [e_C] at b2
  have HC := Lib.hid e_C
  clear e_C
  obtain ⟨ys, n, hy, hn, hm, hb⟩ := vals_facts l
  have ok := sumsOK_of hb (by omega)
  rw [hn] at ok
  have hF := dsq_bd (c := C) hb b2.1 (by omega)
  have hFe := dsq_eq C ys
  rw [hn] at hF hFe
  have hsp : (n : Int) * dsq C ys = ((n : Int) * sqI ys - sumI ys * sumI ys) + (sumI ys - n * C) * (sumI ys - n * C) := by rw [hFe]; grind
  obtain ⟨F, e_F⟩ : ∃ z_, dsq C ys = z_ := ⟨_, rfl⟩
  rw [e_F] at hF hsp
  have HF := Lib.hid e_F
  clear e_F
  have hS := sumI_bd hb
  rw [hn] at hS
  obtain ⟨S, e_S⟩ : ∃ z_, sumI ys = z_ := ⟨_, rfl⟩
  rw [e_S] at ok hsp hS
  have HS := Lib.hid e_S
  clear e_S
  obtain ⟨Q, e_Q⟩ : ∃ z_, sqI ys = z_ := ⟨_, rfl⟩
  rw [e_Q] at ok hsp
  have HQ := Lib.hid e_Q
  clear e_Q
  have bd := ok.bd
  obtain ⟨X, e_X⟩ : ∃ z_, (n : Int) * Q - S * S = z_ := ⟨_, rfl⟩
  rw [e_X] at hsp
  have HX := Lib.hid e_X
  clear e_X
  have nC : 0 ≤ (n : Int) * C ∧ (n : Int) * C ≤ 1073741824 := by
    refine ⟨Int.mul_nonneg (by omega) b2.1, ?_⟩
    exact Int.le_trans (Int.mul_le_mul (a := (n : Int)) (b := C) (c := 64) (d := 16777216) (by omega) (by omega) b2.1 (by omega)) (by omega)
  have dd := sq_le (a := S - n * C) (M := 1073741824) (by omega) (by omega)
  have dn := sq_nonneg (S - n * C)
  have hX : 0 ≤ X ∧ X ≤ 1152921504606846976 := by rw [← HX.out]; omega
  have nF : 0 ≤ (n : Int) * F ∧ (n : Int) * F ≤ 2305843009213693952 := by omega
  have hE : ((n : Int) * F == X + (S - n * C) * (S - n * C)) = true := by simpa using hsp
  have hFb : 0 ≤ F ∧ F ≤ 18014398509481984 := by omega
  have qa := alloc_cells
  have qf := alloc_frozens
  have hval : ∀ w', InRow w' a len cap l → _ := fun w' h => values_at a len cap l w' h ys n hy hn
  have hsum : ∀ A c w', Row w' A n ys → _ := fun A c w' h => sums_ok A n c ys S Q w' h hm hb HS.out HQ.out
  have HVal := Lib.hid hval
  have HSum := Lib.hid hsum
  have HIn := Lib.hid hin
  have HB := Lib.hid hb
  have HN := Lib.hid hn
  have HOk := Lib.hid ok
  clear hval hsum hin hb hn hy ok hsp hFe hF hS
  go_enter Try.func6, Try.ntmps6
  go_wp2_with fail
  refine (begun_ok _).mono ?_
  rintro e w1 ⟨rfl, hb1⟩
  have z1 := hb1.size
  have c1 := Below.cells hb1
  have f1 := Below.frozens hb1
  try simp only [World.size_alloc, World.size_setCell, World.size_drew] at z1 c1 f1
  go_wp2_with fail
  refine (HVal.out _ (HIn.out.below (by repeat (first | (with_reducible exact Below.refl _ _) | ((with_reducible refine Below.alloc ?_ ?_ _); rotate_left; (next => ((try dsimp only); (try simp only [World.size_alloc, World.size_setCell, World.size_drew]); omega))) | ((with_reducible refine Below.setCell ?_ ?_ _); rotate_left; (next => ((try dsimp only); (try simp only [World.size_alloc, World.size_setCell, World.size_drew]); omega))) | (with_reducible refine Below.drew ?_) | ((with_reducible refine Below.trans ?_ (Below.mono hb1 ?_)); rotate_left; (next => ((try dsimp only); (try simp only [World.size_alloc, World.size_setCell, World.size_drew]); omega))))))).mono ?_
  rintro e w2 ⟨A, c, rfl, hrA, hb2⟩
  have RA := Lib.hid hrA
  have EA := Lib.hid hrA.each
  clear hrA
  have z2 := hb2.size
  have c2 := Below.cells hb2
  have f2 := Below.frozens hb2
  try simp only [World.size_alloc, World.size_setCell, World.size_drew] at z2 c2 f2
  go_wp2_with fail
  refine (within_any x 16777217 C _ (by omega) (by omega) HC.out).mono ?_
  rintro e w' ⟨rfl, rfl⟩
  go_wp2_with fail
  refine (HSum.out A c _ (RA.out.below (by repeat (first | (with_reducible exact Below.refl _ _) | ((with_reducible refine Below.alloc ?_ ?_ _); rotate_left; (next => ((try dsimp only); (try simp only [World.size_alloc, World.size_setCell, World.size_drew]); omega))) | ((with_reducible refine Below.setCell ?_ ?_ _); rotate_left; (next => ((try dsimp only); (try simp only [World.size_alloc, World.size_setCell, World.size_drew]); omega))) | (with_reducible refine Below.drew ?_) | (refine Below.trans ?_ (by assumption)))))).mono ?_
  rintro e w3 ⟨rfl, hb3⟩
  have z3 := hb3.size
  have c3 := Below.cells hb3
  have f3 := Below.frozens hb3
  try simp only [World.size_alloc, World.size_setCell, World.size_drew] at z3 c3 f3
  go_wp2_with fail
  refine (spread_ok n S Q X HOk.out HX.out _).mono ?_
  rintro e w4 ⟨rfl, hb4⟩
  have z4 := hb4.size
  have c4 := Below.cells hb4
  have f4 := Below.frozens hb4
  try simp only [World.size_alloc, World.size_setCell, World.size_drew] at z4 c4 f4
  go_wp2_with fail
  have g0 : w4.cell? ⟨w3.heap.size, 0, none⟩ = some (.int .i64 n) := by simp [go_sem, ↓IntWalk.iteOmega, *]
  have g1 : w4.cell? ⟨w3.heap.size, 1, none⟩ = some (.int .i64 S) := by simp [go_sem, ↓IntWalk.iteOmega, *]
  have bel : Below w.heap.size w w4 := (by repeat (first | (with_reducible exact Below.refl _ _) | ((with_reducible refine Below.alloc ?_ ?_ _); rotate_left; (next => ((try dsimp only); (try simp only [World.size_alloc, World.size_setCell, World.size_drew]); omega))) | ((with_reducible refine Below.setCell ?_ ?_ _); rotate_left; (next => ((try dsimp only); (try simp only [World.size_alloc, World.size_setCell, World.size_drew]); omega))) | (with_reducible refine Below.drew ?_) | ((with_reducible refine Below.trans ?_ (Below.mono hb4 ?_)); rotate_left; (next => ((try dsimp only); (try simp only [World.size_alloc, World.size_setCell, World.size_drew]); omega))) | ((with_reducible refine Below.trans ?_ (Below.mono hb3 ?_)); rotate_left; (next => ((try dsimp only); (try simp only [World.size_alloc, World.size_setCell, World.size_drew]); omega))) | ((with_reducible refine Below.trans ?_ (Below.mono hb2 ?_)); rotate_left; (next => ((try dsimp only); (try simp only [World.size_alloc, World.size_setCell, World.size_drew]); omega))) | ((with_reducible refine Below.trans ?_ (Below.mono hb1 ?_)); rotate_left; (next => ((try dsimp only); (try simp only [World.size_alloc, World.size_setCell, World.size_drew]); omega)))))
  have HE := Lib.hid (RA.out.below (w' := w4) (by repeat (first | (with_reducible exact Below.refl _ _) | ((with_reducible refine Below.alloc ?_ ?_ _); rotate_left; (next => ((try dsimp only); (try simp only [World.size_alloc, World.size_setCell, World.size_drew]); omega))) | ((with_reducible refine Below.setCell ?_ ?_ _); rotate_left; (next => ((try dsimp only); (try simp only [World.size_alloc, World.size_setCell, World.size_drew]); omega))) | (with_reducible refine Below.drew ?_) | ((with_reducible refine Below.trans ?_ (Below.mono hb4 ?_)); rotate_left; (next => ((try dsimp only); (try simp only [World.size_alloc, World.size_setCell, World.size_drew]); omega))) | ((with_reducible refine Below.trans ?_ (Below.mono hb3 ?_)); rotate_left; (next => ((try dsimp only); (try simp only [World.size_alloc, World.size_setCell, World.size_drew]); omega)))))).each
  clear c1 c2 c3 c4 f1 f2 f3 f4 z1 z2 z3 z4 qa qf
  go_loop [8, 26] (fun f i => ∃ (k : Nat) (D : Int), k ≤ n ∧ i = .int .i64 k ∧ f = .int .i64 D ∧ dsq C (ys.take k) = D) (fun _ i => n - (intOf i).toNat)
  case atStart => exact ⟨0, 0, Nat.zero_le _, rfl, rfl, by simp [dsq]⟩
  case round =>
    obtain ⟨k, D, hk, rfl, rfl, hD⟩ := hrel
    have hL := HN.out
    have d1 := dsq_bd (c := C) (HB.out.take k) (by omega) (by omega)
    have hlen : (ys.take k).length ≤ 64 := by simp; omega
    rw [hD] at d1
    have HD := Lib.hid hD
    clear hD
    by_cases hlt : k < n
    · have d2 := dsq_snoc C ys (k := k) (by omega)
      have hx2 := HB.out.get (k := k) (by omega)
      obtain ⟨bky, offy, hAy, lty, hry⟩ := HE.out k hlt
      subst hAy
      obtain ⟨y, hvy, hxy⟩ := name_num hry
      have HY := Lib.hid hvy
      clear hvy hry
      rw [← HY.out] at hx2 d2
      have y1 := sq_le (a := y - C) (M := 16777216) (by omega) (by omega)
      have y2 := sq_nonneg (y - C)
      rw [HD.out] at d2
      have D2 := Lib.hid d2
      have d3 : 0 ≤ D ∧ D ≤ 18014398509481984 := by omega
      clear d1 d2 hlen hL
      go_wp2_with fail
      go_round
      case rel => exact ⟨k + 1, _, by omega, by go_num, rfl, D2.out⟩
      case measure => simp [intOf]; omega
    · obtain rfl : k = n := by omega
      have e := HD.out
      rw [List.take_of_length_le (by omega), HF.out] at e
      subst e
      clear d1 hlen hL
      go_wp2_with fail
      go_ret
      exact ⟨rfl, bel⟩
end Go.Proofs.Ytmahmeopehhjfaa

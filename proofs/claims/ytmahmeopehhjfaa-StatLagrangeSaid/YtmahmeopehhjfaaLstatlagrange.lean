import Derived.Test.YtmahmeopehhjfaaSt
set_option linter.unusedSimpArgs false
set_option linter.unusedVariables false
namespace Go.Proofs.Ytmahmeopehhjfaa
open Go.RowKit

theorem dsq_snoc (c : Int) (l : List Int) {k : Nat} (h : k < l.length) : dsq c (l.take (k + 1)) = dsq c (l.take k) + (c - l.getD k 0) * (c - l.getD k 0) := by
  rw [take_snoc l h, dsq_append]; simp only [dsq]; grind
theorem spr_take (l : List Int) {k : Nat} (h : k < l.length) : spr (l.take (k + 1)) = spr (l.take k) + dsq (l.getD k 0) (l.take k) := by
  rw [take_snoc l h, spr_snoc]
theorem spr_bd {l : List Int} (h : Btw 0 16777216 l) (hl : l.length ≤ 64) : 0 ≤ spr l ∧ spr l ≤ 1152921504606846976 := by
  have h1 := spr_nonneg l
  have h2 := (sumsOK_of h hl).bd
  unfold spr at *
  omega
theorem dsq_bd {l : List Int} {c : Int} (h : Btw 0 16777216 l) (h0 : 0 ≤ c) (h1 : c ≤ 16777216) : 0 ≤ dsq c l ∧ dsq c l ≤ l.length * 281474976710656 := by
  induction l with
  | nil => simp [dsq]
  | cons x l ih =>
    have a := h.head
    have b := ih h.tail
    have d := sq_le (a := x - c) (M := 16777216) (by omega) (by omega)
    have e := sq_nonneg (x - c)
    simp only [dsq, List.length_cons, Int.natCast_add, Int.add_mul]
    omega
theorem sq_zero {a : Int} (h : a * a = 0) : a = 0 := by
  rcases Int.mul_eq_zero.1 h with h | h <;> exact h

set_option maxHeartbeats 4000000 in
theorem statLagrange_walk (a : Option Addr) (len cap : Nat) (l : List Int) (w : World) (hin : InRow w a len cap l) :
    Calls Try.prog 5 #[.slice a len cap] w fun e w' =>
      e = .returned (.bool true) ∧ Below w.heap.size w w' := by
  obtain ⟨ys, n, S, Q, X, hy, hn, hm, hb, hS, hQ, hX, hsp, ok⟩ := stat_pack l
  have hXb := spr_bd hb (by omega)
  rw [hsp] at hXb
  have qa := alloc_cells
  have qf := alloc_frozens
  have hval : ∀ w', InRow w' a len cap l → _ := fun w' h => values_at a len cap l w' h ys n hy hn
  have hsum : ∀ A c w', Row w' A n ys → _ := fun A c w' h => sums_ok A n c ys S Q w' h hm hb hS hQ
  have hspr : ∀ w', _ := fun w' => spread_ok n S Q X ok hX w'
  have HVal := Lib.hid hval
  have HSum := Lib.hid hsum
  have HSpr := Lib.hid hspr
  have HIn := Lib.hid hin
  have HB := Lib.hid hb
  have HN := Lib.hid hn
  have HS := Lib.hid hsp
  clear hval hsum hspr hin hb hn hy ok hsp hS hQ hX
  go_enter Try.func5, Try.ntmps5
  go_wp2_with fail
  refine (begun_ok _).mono ?_
  rintro e w1 ⟨rfl, hb1⟩
  have z1 := hb1.size
  have c1 := Below.cells hb1
  have f1 := Below.frozens hb1
  try simp only [World.size_alloc, World.size_setCell, World.size_drew] at z1 c1 f1
  go_wp2_with fail
  refine (HVal.out _ (HIn.out.below (by repeat (first | (with_reducible exact Below.refl _ _) | ((with_reducible refine Below.alloc ?_ ?_ _); rotate_left; (next => ((try dsimp only); (try simp only [World.size_alloc, World.size_setCell, World.size_drew]); omega))) | ((with_reducible refine Below.setCell ?_ ?_ _); rotate_left; (next => ((try dsimp only); (try simp only [World.size_alloc, World.size_setCell, World.size_drew]); omega))) | (with_reducible refine Below.drew ?_) | ((with_reducible refine Below.trans ?_ (Below.mono hb1 ?_)); rotate_left; (next => ((try dsimp only); (try simp only [World.size_alloc, World.size_setCell, World.size_drew]); omega))))))).mono ?_
  rintro e w2 ⟨A, c, rfl, hrA, hb2⟩
  have RA := Lib.hid hrA.1
  have EA := Lib.hid hrA.1.each
  have IA := Lib.hid hrA
  have capA := hrA.2.1
  clear hrA
  have z2 := hb2.size
  have c2 := Below.cells hb2
  have f2 := Below.frozens hb2
  try simp only [World.size_alloc, World.size_setCell, World.size_drew] at z2 c2 f2
  go_wp2_with fail
  refine (HSum.out A c _ (RA.out.below (by repeat (first | (with_reducible exact Below.refl _ _) | ((with_reducible refine Below.alloc ?_ ?_ _); rotate_left; (next => ((try dsimp only); (try simp only [World.size_alloc, World.size_setCell, World.size_drew]); omega))) | ((with_reducible refine Below.setCell ?_ ?_ _); rotate_left; (next => ((try dsimp only); (try simp only [World.size_alloc, World.size_setCell, World.size_drew]); omega))) | (with_reducible refine Below.drew ?_) | (refine Below.trans ?_ (by assumption)))))).mono ?_
  rintro e w3 ⟨rfl, hb3⟩
  have z3 := hb3.size
  have c3 := Below.cells hb3
  have f3 := Below.frozens hb3
  try simp only [World.size_alloc, World.size_setCell, World.size_drew] at z3 c3 f3
  go_wp2_with fail
  refine (HSpr.out _).mono ?_
  rintro e w4 ⟨rfl, hb4⟩
  have z4 := hb4.size
  have c4 := Below.cells hb4
  have f4 := Below.frozens hb4
  try simp only [World.size_alloc, World.size_setCell, World.size_drew] at z4 c4 f4
  go_wp2_with fail
  have bel : Below w.heap.size w w4 := (by repeat (first | (with_reducible exact Below.refl _ _) | ((with_reducible refine Below.alloc ?_ ?_ _); rotate_left; (next => ((try dsimp only); (try simp only [World.size_alloc, World.size_setCell, World.size_drew]); omega))) | ((with_reducible refine Below.setCell ?_ ?_ _); rotate_left; (next => ((try dsimp only); (try simp only [World.size_alloc, World.size_setCell, World.size_drew]); omega))) | (with_reducible refine Below.drew ?_) | ((with_reducible refine Below.trans ?_ (Below.mono hb4 ?_)); rotate_left; (next => ((try dsimp only); (try simp only [World.size_alloc, World.size_setCell, World.size_drew]); omega))) | ((with_reducible refine Below.trans ?_ (Below.mono hb3 ?_)); rotate_left; (next => ((try dsimp only); (try simp only [World.size_alloc, World.size_setCell, World.size_drew]); omega))) | ((with_reducible refine Below.trans ?_ (Below.mono hb2 ?_)); rotate_left; (next => ((try dsimp only); (try simp only [World.size_alloc, World.size_setCell, World.size_drew]); omega))) | ((with_reducible refine Below.trans ?_ (Below.mono hb1 ?_)); rotate_left; (next => ((try dsimp only); (try simp only [World.size_alloc, World.size_setCell, World.size_drew]); omega)))))
  have HE := Lib.hid (RA.out.below (w' := w4) (by repeat (first | (with_reducible exact Below.refl _ _) | ((with_reducible refine Below.alloc ?_ ?_ _); rotate_left; (next => ((try dsimp only); (try simp only [World.size_alloc, World.size_setCell, World.size_drew]); omega))) | ((with_reducible refine Below.setCell ?_ ?_ _); rotate_left; (next => ((try dsimp only); (try simp only [World.size_alloc, World.size_setCell, World.size_drew]); omega))) | (with_reducible refine Below.drew ?_) | ((with_reducible refine Below.trans ?_ (Below.mono hb4 ?_)); rotate_left; (next => ((try dsimp only); (try simp only [World.size_alloc, World.size_setCell, World.size_drew]); omega))) | ((with_reducible refine Below.trans ?_ (Below.mono hb3 ?_)); rotate_left; (next => ((try dsimp only); (try simp only [World.size_alloc, World.size_setCell, World.size_drew]); omega)))))).each
  clear c1 c2 c3 c4 f1 f2 f3 f4 z1 z2 z3 z4 qa qf
  go_loop [5, 6, 23] (fun f s i => ∃ (k : Nat) (D : Int), k ≤ n ∧ i = .int .i64 k ∧ f = .int .i64 D ∧ s = .bool (decide (D = 0)) ∧ spr (ys.take k) = D) (fun _ _ i => n - (intOf i).toNat)
  case atStart => exact ⟨0, 0, Nat.zero_le _, rfl, rfl, rfl, by simp [spr, sumI, sqI]⟩
  case round =>
    obtain ⟨k, D, hk, rfl, rfl, rfl, hD⟩ := hrel
    have hL := HN.out
    have hlen : (ys.take k).length = k := by simp; omega
    have d1 := spr_bd (HB.out.take k) (by omega)
    rw [hD] at d1
    by_cases hlt : k < n
    · have d2 := spr_take ys (k := k) (by omega)
      have hx2 := HB.out.get (k := k) (by omega)
      obtain ⟨bkx, offx, hAx, ltx, hrx⟩ := HE.out k hlt
      subst hAx
      obtain ⟨x, hvx, hxx⟩ := name_num hrx
      have HX := Lib.hid hvx
      clear hvx hrx
      rw [← HX.out] at hx2 d2
      rw [hD] at d2
      have D2 := Lib.hid d2
      have HL := Lib.hid hlen
      clear d2 hlen hL hD
      go_wp2_with fail
      go_loop [5, 6, 32] (fun f s i => ∃ (j : Nat) (E : Int), j ≤ k ∧ i = .int .i64 j ∧ f = .int .i64 E ∧ s = .bool (decide (E = 0)) ∧ D + dsq x (ys.take j) = E) (fun _ _ i => k - (intOf i).toNat)
      case atStart => exact ⟨0, D, Nat.zero_le _, rfl, rfl, rfl, by simp [dsq]⟩
      case round =>
        obtain ⟨j, E, hj, rfl, rfl, rfl, hE⟩ := hrel
        have hL := HN.out
        have e1 := dsq_bd (c := x) (HB.out.take j) (by omega) (by omega)
        have hlj : (ys.take j).length = j := by simp; omega
        rw [hlj] at e1
        have e2 : D ≤ E ∧ E ≤ 1152921504606846976 + 18014398509481984 := by omega
        by_cases hlt2 : j < k
        · have e3 := dsq_snoc x ys (k := j) (by omega)
          have hy2 := HB.out.get (k := j) (by omega)
          obtain ⟨_, _, hA2, _, hr2⟩ := HE.out j (by omega)
          injection hA2 with hA2
          injection hA2 with hA3 hA4
          subst hA3 hA4
          obtain ⟨y, hvy, hxy⟩ := name_num hr2
          rw [← hvy] at hy2 e3
          have hyy := sq_le (a := x - y) (M := 16777216) (by omega) (by omega)
          have hyn := sq_nonneg (x - y)
          have e4 : D + dsq x (ys.take (j + 1)) = E + (x - y) * (x - y) := by omega
          have E4 := Lib.hid e4
          clear e1 e3 e4 hlj hE hr2 hL hvy
          by_cases h0 : E = 0
          · subst h0
            by_cases h1 : x = y
            · subst h1
              go_wp2_with fail
              go_round
              case rel => exact ⟨j + 1, _, by omega, by go_num, rfl, by simp, by have := E4.out; simpa using this⟩
              case measure => simp [intOf]; omega
            · have h2 : ¬ (x - y) * (x - y) = 0 := fun h => h1 (by have := sq_zero h; omega)
              have H2 := Lib.hid h2
              clear h2
              go_wp2_with fail
              go_round
              case rel => exact ⟨j + 1, _, by omega, by go_num, rfl, by have q : decide ((x - y) * (x - y) = 0) = false := decide_eq_false H2.out; first | (rw [q]; done) | (rw [q]; simp [h1]; done), by have := E4.out; simpa using this⟩
              case measure => simp [intOf]; omega
          · have h2 : ¬ E + (x - y) * (x - y) = 0 := by omega
            have H2 := Lib.hid h2
            clear h2
            have h3 : decide (E = 0) = false := by simpa using h0
            go_wp2_with fail
            go_round
            case rel => exact ⟨j + 1, _, by omega, by go_num, rfl, by have := H2.out; simp; omega, E4.out⟩
            case measure => simp [intOf]; omega
        · obtain rfl : j = k := by omega
          have E2 := Lib.hid (D2.out.trans hE)
          clear e1 hlj hE hL
          go_wp2_with fail
          go_round
          case rel => exact ⟨j + 1, _, by omega, by go_num, rfl, rfl, E2.out⟩
          case measure => simp [intOf]; omega
    · obtain rfl : k = n := by omega
      rw [List.take_of_length_le (by omega), HS.out] at hD
      subst hD
      clear d1 hlen hL
      by_cases h0 : X = 0
      · subst h0
        go_wp2_with fail
        go_ret
        exact ⟨rfl, bel⟩
      · have h3 : (X == 0) = false := by simpa using h0
        have h4 : decide (X = 0) = false := by simpa using h0
        go_wp2_with fail
        go_ret
        exact ⟨rfl, bel⟩
end Go.Proofs.Ytmahmeopehhjfaa

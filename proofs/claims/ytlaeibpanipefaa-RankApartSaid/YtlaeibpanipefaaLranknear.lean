import Derived.Test.YtlaeibpanipefaaLrankmedian
import Derived.Test.YtlaeibpanipefaaSt
import Derived.Test.YtlaeibpanipefaaEq
set_option linter.unusedSimpArgs false
set_option linter.unusedVariables false
namespace Go.Proofs.Ytlaeibpanipefaa
open Go.RowKit
theorem far_sum (c : Int) (l : List Int) : sumI l - l.length * c ≤ far c l ∧ -(far c l) ≤ sumI l - l.length * c := by
  induction l with
  | nil => simp [sumI, far]
  | cons x l ih =>
    have e : ((l.length : Int) + 1) * c = l.length * c + c := by rw [Int.add_mul, Int.one_mul]
    simp only [sumI, far, List.length_cons]
    rw [show ((l.length + 1 : Nat) : Int) = (l.length : Int) + 1 by omega, e]
    have : x - c ≤ dist x c ∧ -(dist x c) ≤ x - c := by unfold dist; split <;> omega
    omega
theorem far_list (c : Int) (l : List Int) : sumI (l.map fun x => dist x c) = far c l ∧ sqI (l.map fun x => dist x c) = dsq c l := by
  induction l with
  | nil => simp [sumI, sqI, far, dsq]
  | cons x l ih =>
    have : dist x c * dist x c = (x - c) * (x - c) := by
      unfold dist
      split
      · rw [show c - x = -(x - c) by omega, Int.neg_mul_neg]
      · rfl
    simp only [List.map_cons, sumI, sqI, far, dsq, ih.1, ih.2, this]
    simp
theorem far_cs (c : Int) (l : List Int) : far c l * far c l ≤ l.length * dsq c l := by
  have h := spr_nonneg (l.map fun x => dist x c)
  unfold spr at h
  rw [(far_list c l).1, (far_list c l).2, List.length_map] at h
  omega
theorem sumI_scale (n : Int) (l : List Int) : sumI (l.map (n * ·)) = n * sumI l ∧ sqI (l.map (n * ·)) = n * n * sqI l := by
  induction l with
  | nil => simp [sumI, sqI]
  | cons x l ih =>
    simp only [List.map_cons, sumI, sqI, ih.1, ih.2, Int.mul_add]
    refine ⟨trivial, ?_⟩
    rw [show n * x * (n * x) = n * n * (x * x) by rw [Int.mul_assoc, Int.mul_left_comm x n x, ← Int.mul_assoc n n]]
theorem cnt_scale {n : Int} (hn : 0 < n) (t : Int) (l : List Int) : cnt (n * t) (l.map (n * ·)) = cnt t l ∧ cnt (n * t + 1) (l.map (n * ·)) = cnt (t + 1) l := by
  induction l with
  | nil => simp [cnt]
  | cons x l ih =>
    have a : n * t ≤ n * x ↔ t ≤ x := ⟨fun h => Int.le_of_mul_le_mul_left h hn, fun h => Int.mul_le_mul_of_nonneg_left h (by omega)⟩
    have b : n * t + 1 ≤ n * x ↔ t + 1 ≤ x := by
      constructor
      · intro h
        rcases Int.lt_or_le x (t + 1) with q | q
        · have := Int.mul_le_mul_of_nonneg_left (show x ≤ t by omega) (show 0 ≤ n by omega)
          omega
        · exact q
      · intro h
        have := Int.mul_le_mul_of_nonneg_left h (show 0 ≤ n by omega)
        rw [Int.mul_add, Int.mul_one] at this
        omega
    simp only [List.map_cons, cnt, ih.1, ih.2, a, b]
    exact ⟨trivial, trivial⟩
theorem near_sq (l : List Int) (m : Int) (n : Nat) (S Q : Int) (hn : l.length = n) (h0 : 0 < n) (hS : sumI l = S) (hQ : sqI l = Q) (h1 : 2 * cnt (m + 1) l ≤ l.length) (h2 : (l.length : Int) ≤ 2 * cnt m l) :
    ((n : Int) * m - S) * ((n : Int) * m - S) ≤ n * Q - S * S := by
  have hp : (0 : Int) < n := by omega
  obtain ⟨s1, s2⟩ := sumI_scale n l
  obtain ⟨c1, c2⟩ := cnt_scale hp m l
  have fm := far_min ((n : Int) * m) S (l.map ((n : Int) * ·)) (by rw [c2, List.length_map]; exact h1) (by rw [c1, List.length_map]; exact h2)
  have fs := far_sum ((n : Int) * m) (l.map ((n : Int) * ·))
  have cs := far_cs S (l.map ((n : Int) * ·))
  rw [dsq_eq] at cs
  rw [s1, s2, List.length_map, hn, hS, hQ] at cs
  rw [s1, List.length_map, hn, hS] at fs
  obtain ⟨T1, hT1⟩ : ∃ T, far ((n : Int) * m) (l.map ((n : Int) * ·)) = T := ⟨_, rfl⟩
  obtain ⟨T2, hT2⟩ : ∃ T, far S (l.map ((n : Int) * ·)) = T := ⟨_, rfl⟩
  rw [hT1] at fm fs
  rw [hT2] at fm cs
  have q1 := sq_le fs.2 fs.1
  have q2 : T1 * T1 ≤ T2 * T2 := Int.mul_le_mul fm fm (by omega) (by omega)
  have e1 : ((n : Int) * S - n * (n * m)) * (n * S - n * (n * m)) = n * n * ((n * m - S) * (n * m - S)) := by
    rw [← Int.mul_sub, show (n : Int) * (S - n * m) * (n * (S - n * m)) = n * n * ((S - n * m) * (S - n * m)) by rw [Int.mul_assoc, Int.mul_left_comm (S - n * m) n, ← Int.mul_assoc n n], show S - (n : Int) * m = -(n * m - S) by omega, Int.neg_mul_neg]
  have e2 : (n : Int) * (n * n * Q - 2 * (S * (n * S)) + n * (S * S)) = n * n * (n * Q - S * S) := by
    have a1 : S * ((n : Int) * S) = n * (S * S) := Int.mul_left_comm ..
    have a2 : (n : Int) * n * Q = n * (n * Q) := Int.mul_assoc ..
    rw [a1, a2, show (n : Int) * (n * Q) - 2 * (n * (S * S)) + n * (S * S) = n * (n * Q) - n * (S * S) by omega, ← Int.mul_sub, ← Int.mul_assoc]
  rw [e1] at q1
  rw [e2] at cs
  exact Int.le_of_mul_le_mul_left (show (n : Int) * n * ((n * m - S) * (n * m - S)) ≤ n * n * (n * Q - S * S) by omega) (Int.mul_pos hp hp)
theorem srt_312 : srt [3, 1, 2] = [1, 2, 3] := srt_eq (by decide) (by decide)

set_option maxRecDepth 100000 in
set_option maxHeartbeats 4000000 in
theorem rbegun_ok (w : World) :
    Calls Try.prog 19 #[] w fun e w' => e = .returned (.bool true) ∧ Below w.heap.size w w' := by
  have hs0 := sort_ok _ 3 3 [3, 1, 2] _ (Row.lit w 3 [3, 1, 2] 3 rfl) (by omega) (by decide)
  simp only [List.map_cons, List.map_nil] at hs0
  rw [srt_312] at hs0
  have HS0 := Lib.hid hs0
  have qa := alloc_cells
  have qf := alloc_frozens
  clear hs0
  go_enter Try.func19, Try.ntmps19
  go_wp2_with fail
  refine HS0.out.mono ?_
  rintro e w1 ⟨A', c', rfl, hin, _, hb1⟩
  have z1 := hb1.size
  (try simp only [World.size_alloc] at z1)
  have hE := equal_ok _ _ 3 c' 3 3 [1, 2, 3] _ (hin.1.below ((Below.refl w1.heap.size w1).alloc (Nat.le_refl _) (.cells #[.int .i64 1, .int .i64 2, .int .i64 3] 3))) (Row.lit w1 3 [1, 2, 3] 3 rfl) (by omega)
  try simp only [List.map_cons, List.map_nil] at hE
  have HE := Lib.hid hE
  clear hE hin
  go_wp2_with fail
  refine (HE.out).mono ?_
  rintro e w2 ⟨rfl, hb2⟩
  have z2 := hb2.size
  have c2 := Below.cells hb2
  have f2 := Below.frozens hb2
  try simp only [World.size_alloc, World.size_setCell, World.size_drew] at z2 c2 f2
  go_wp2_with fail
  go_ret
  exact ⟨rfl, (by repeat (first | (with_reducible exact Below.refl _ _) | ((with_reducible refine Below.alloc ?_ ?_ _); rotate_left; (next => ((try dsimp only); (try simp only [World.size_alloc, World.size_setCell, World.size_drew]); omega))) | ((with_reducible refine Below.setCell ?_ ?_ _); rotate_left; (next => ((try dsimp only); (try simp only [World.size_alloc, World.size_setCell, World.size_drew]); omega))) | (with_reducible refine Below.drew ?_) | ((with_reducible refine Below.trans ?_ (Below.mono hb2 ?_)); rotate_left; (next => ((try dsimp only); (try simp only [World.size_alloc, World.size_setCell, World.size_drew]); omega))) | ((with_reducible refine Below.trans ?_ (Below.mono hb1 ?_)); rotate_left; (next => ((try dsimp only); (try simp only [World.size_alloc, World.size_setCell, World.size_drew]); omega)))))⟩

set_option maxRecDepth 100000 in
set_option maxHeartbeats 16000000 in
theorem rankNear_walk (a : Option Addr) (len cap : Nat) (l : List Int) (w : World) (hin : InRow w a len cap l) :
    Calls Try.prog 9 #[.slice a len cap] w fun e w' =>
      e = .returned (.bool true) ∧ Below w.heap.size w w' := by
  obtain ⟨ys, n, S, Q, X, hy, hn, hm, hb, hS, hQ, hX, _, ok⟩ := stat_pack l
  have hlv : ∀ w', InRow w' a len cap l → _ := fun w' h => values_at a len cap l w' h ys n hy hn
  have HLv := Lib.hid hlv
  have HS0 := Lib.hid (fun w => rbegun_ok w)
  have HS1 := Lib.hid (fun w => begun_ok w)
  have HIn := Lib.hid hin
  have qa := alloc_cells
  have qf := alloc_frozens
  rcases Nat.eq_zero_or_pos n with h0 | h0
  · subst h0
    clear hlv hin hn hy hb hS hQ hX ok
    go_enter Try.func9, Try.ntmps9
    go_wp2_with fail
    refine (HS0.out _).mono ?_
    rintro e w1 ⟨rfl, hb1⟩
    have z1 := hb1.size
    have c1 := Below.cells hb1
    have f1 := Below.frozens hb1
    try simp only [World.size_alloc, World.size_setCell, World.size_drew] at z1 c1 f1
    go_wp2_with fail
    refine (HS1.out _).mono ?_
    rintro e w2 ⟨rfl, hb2⟩
    have z2 := hb2.size
    have c2 := Below.cells hb2
    have f2 := Below.frozens hb2
    try simp only [World.size_alloc, World.size_setCell, World.size_drew] at z2 c2 f2
    go_wp2_with fail
    refine (HLv.out _ (HIn.out.below (by repeat (first | (with_reducible exact Below.refl _ _) | ((with_reducible refine Below.alloc ?_ ?_ _); rotate_left; (next => ((try dsimp only); (try simp only [World.size_alloc, World.size_setCell, World.size_drew]); omega))) | ((with_reducible refine Below.setCell ?_ ?_ _); rotate_left; (next => ((try dsimp only); (try simp only [World.size_alloc, World.size_setCell, World.size_drew]); omega))) | (with_reducible refine Below.drew ?_) | ((with_reducible refine Below.trans ?_ (Below.mono hb2 ?_)); rotate_left; (next => ((try dsimp only); (try simp only [World.size_alloc, World.size_setCell, World.size_drew]); omega))) | ((with_reducible refine Below.trans ?_ (Below.mono hb1 ?_)); rotate_left; (next => ((try dsimp only); (try simp only [World.size_alloc, World.size_setCell, World.size_drew]); omega))))))).mono ?_
    rintro e w3 ⟨A2, cap2, rfl, hrA2, hb3⟩
    have RA2 := Lib.hid hrA2.1
    have EA2 := Lib.hid hrA2.1.each
    have IA2 := Lib.hid hrA2
    have capA2 := hrA2.2.1
    clear hrA2
    have z3 := hb3.size
    have c3 := Below.cells hb3
    have f3 := Below.frozens hb3
    try simp only [World.size_alloc, World.size_setCell, World.size_drew] at z3 c3 f3
    go_wp2_with fail
    go_ret
    exact ⟨rfl, (by repeat (first | (with_reducible exact Below.refl _ _) | ((with_reducible refine Below.alloc ?_ ?_ _); rotate_left; (next => ((try dsimp only); (try simp only [World.size_alloc, World.size_setCell, World.size_drew]); omega))) | ((with_reducible refine Below.setCell ?_ ?_ _); rotate_left; (next => ((try dsimp only); (try simp only [World.size_alloc, World.size_setCell, World.size_drew]); omega))) | (with_reducible refine Below.drew ?_) | ((with_reducible refine Below.trans ?_ (Below.mono hb3 ?_)); rotate_left; (next => ((try dsimp only); (try simp only [World.size_alloc, World.size_setCell, World.size_drew]); omega))) | ((with_reducible refine Below.trans ?_ (Below.mono hb2 ?_)); rotate_left; (next => ((try dsimp only); (try simp only [World.size_alloc, World.size_setCell, World.size_drew]); omega))) | ((with_reducible refine Below.trans ?_ (Below.mono hb1 ?_)); rotate_left; (next => ((try dsimp only); (try simp only [World.size_alloc, World.size_setCell, World.size_drew]); omega)))))⟩
  · obtain ⟨K, hK, hKn, k1, k2⟩ := kth_rank n 1 2 h0 (by omega) (by omega)
    obtain ⟨x, hx⟩ : ∃ x, (srt ys).getD K 0 = x := ⟨_, rfl⟩
    have hmem := kth_mem ys K (by omega)
    have g1 := (kth_iff ys K (by omega) x).1 (by omega)
    have g2 : ¬ ((ys.length : Int) - K ≤ cnt (x + 1) ys) := fun h => by
      have := (kth_iff ys K (by omega) (x + 1)).2 h
      omega
    rw [hx] at hmem
    have hxb := hb x hmem
    have hnear := near_sq ys x n S Q hn h0 hS hQ (by omega) (by omega)
    rw [hX] at hnear
    have bd := ok.bd
    have m1 : 0 ≤ (n : Int) * x := Int.mul_nonneg (by omega) hxb.1
    have m2 : (n : Int) * x ≤ 64 * 16777216 := Int.mul_le_mul (by omega) (by omega) hxb.1 (by omega)
    obtain ⟨M, hM⟩ : ∃ M, (n : Int) * x = M := ⟨_, rfl⟩
    rw [hM] at m1 m2 hnear
    have hMw : IntKind.i64.wrap ((n : Int) * x) = M := by rw [hM]; exact IntWalk.i64_in _ (by omega)
    obtain ⟨D, hD⟩ : ∃ D, M - S = D := ⟨_, rfl⟩
    rw [hD] at hnear
    have hd1 : -1073741824 ≤ D ∧ D ≤ 1073741824 := by omega
    have hd2 := sq_le hd1.1 hd1.2
    have hd3 := sq_nonneg D
    obtain ⟨E, hE⟩ : ∃ E, D * D = E := ⟨_, rfl⟩
    rw [hE] at hnear hd2 hd3
    have hEw : IntKind.i64.wrap (D * D) = E := by rw [hE]; exact IntWalk.i64_in _ (by omega)
    have hDw : IntKind.i64.wrap (M - S) = D := by rw [hD]; exact IntWalk.i64_in _ (by omega)
    have hs1 : ∀ A c w', Row w' A n ys → _ := fun A c w' h => rank_ok A n c ys 1 2 x K w' h h0 hm hb (by omega) (by omega) hK hKn hx
    have hs2 : ∀ A c w', Row w' A n ys → _ := fun A c w' h => sums_ok A n c ys S Q w' h hm hb hS hQ
    have HS2 := Lib.hid hs1
    have HS3 := Lib.hid hs2
    have HS4 := Lib.hid (fun w => spread_ok n S Q X ok hX w)
    have HD := Lib.hid hD
    have n1 : ((n : Int) == 0) = false := by simp; omega
    clear hlv hs1 hs2 hin hn hy hb hmem hxb g1 g2 hx hK k1 k2 hS hQ hX ok bd hM hE hD
    go_enter Try.func9, Try.ntmps9
    go_wp2_with fail
    refine (HS0.out _).mono ?_
    rintro e w1 ⟨rfl, hb1⟩
    have z1 := hb1.size
    have c1 := Below.cells hb1
    have f1 := Below.frozens hb1
    try simp only [World.size_alloc, World.size_setCell, World.size_drew] at z1 c1 f1
    go_wp2_with fail
    refine (HS1.out _).mono ?_
    rintro e w2 ⟨rfl, hb2⟩
    have z2 := hb2.size
    have c2 := Below.cells hb2
    have f2 := Below.frozens hb2
    try simp only [World.size_alloc, World.size_setCell, World.size_drew] at z2 c2 f2
    go_wp2_with fail
    refine (HLv.out _ (HIn.out.below (by repeat (first | (with_reducible exact Below.refl _ _) | ((with_reducible refine Below.alloc ?_ ?_ _); rotate_left; (next => ((try dsimp only); (try simp only [World.size_alloc, World.size_setCell, World.size_drew]); omega))) | ((with_reducible refine Below.setCell ?_ ?_ _); rotate_left; (next => ((try dsimp only); (try simp only [World.size_alloc, World.size_setCell, World.size_drew]); omega))) | (with_reducible refine Below.drew ?_) | ((with_reducible refine Below.trans ?_ (Below.mono hb2 ?_)); rotate_left; (next => ((try dsimp only); (try simp only [World.size_alloc, World.size_setCell, World.size_drew]); omega))) | ((with_reducible refine Below.trans ?_ (Below.mono hb1 ?_)); rotate_left; (next => ((try dsimp only); (try simp only [World.size_alloc, World.size_setCell, World.size_drew]); omega))))))).mono ?_
    rintro e w3 ⟨A2, cap2, rfl, hrA2, hb3⟩
    have RA2 := Lib.hid hrA2.1
    have EA2 := Lib.hid hrA2.1.each
    have IA2 := Lib.hid hrA2
    have capA2 := hrA2.2.1
    clear hrA2
    have z3 := hb3.size
    have c3 := Below.cells hb3
    have f3 := Below.frozens hb3
    try simp only [World.size_alloc, World.size_setCell, World.size_drew] at z3 c3 f3
    go_wp2_with fail
    refine (HS2.out _ _ _ RA2.out).mono ?_
    rintro e w4 ⟨rfl, hb4⟩
    have z4 := hb4.size
    have c4 := Below.cells hb4
    have f4 := Below.frozens hb4
    try simp only [World.size_alloc, World.size_setCell, World.size_drew] at z4 c4 f4
    go_wp2_with fail
    refine (HS3.out _ _ _ (RA2.out.below hb4)).mono ?_
    rintro e w5 ⟨rfl, hb5⟩
    have z5 := hb5.size
    have c5 := Below.cells hb5
    have f5 := Below.frozens hb5
    try simp only [World.size_alloc, World.size_setCell, World.size_drew] at z5 c5 f5
    go_wp2_with fail
    refine (HS4.out _).mono ?_
    rintro e w6 ⟨rfl, hb6⟩
    have z6 := hb6.size
    have c6 := Below.cells hb6
    have f6 := Below.frozens hb6
    try simp only [World.size_alloc, World.size_setCell, World.size_drew] at z6 c6 f6
    go_wp2_with fail
    go_ret
    exact ⟨rfl, (by repeat (first | (with_reducible exact Below.refl _ _) | ((with_reducible refine Below.alloc ?_ ?_ _); rotate_left; (next => ((try dsimp only); (try simp only [World.size_alloc, World.size_setCell, World.size_drew]); omega))) | ((with_reducible refine Below.setCell ?_ ?_ _); rotate_left; (next => ((try dsimp only); (try simp only [World.size_alloc, World.size_setCell, World.size_drew]); omega))) | (with_reducible refine Below.drew ?_) | ((with_reducible refine Below.trans ?_ (Below.mono hb6 ?_)); rotate_left; (next => ((try dsimp only); (try simp only [World.size_alloc, World.size_setCell, World.size_drew]); omega))) | ((with_reducible refine Below.trans ?_ (Below.mono hb5 ?_)); rotate_left; (next => ((try dsimp only); (try simp only [World.size_alloc, World.size_setCell, World.size_drew]); omega))) | ((with_reducible refine Below.trans ?_ (Below.mono hb4 ?_)); rotate_left; (next => ((try dsimp only); (try simp only [World.size_alloc, World.size_setCell, World.size_drew]); omega))) | ((with_reducible refine Below.trans ?_ (Below.mono hb3 ?_)); rotate_left; (next => ((try dsimp only); (try simp only [World.size_alloc, World.size_setCell, World.size_drew]); omega))) | ((with_reducible refine Below.trans ?_ (Below.mono hb2 ?_)); rotate_left; (next => ((try dsimp only); (try simp only [World.size_alloc, World.size_setCell, World.size_drew]); omega))) | ((with_reducible refine Below.trans ?_ (Below.mono hb1 ?_)); rotate_left; (next => ((try dsimp only); (try simp only [World.size_alloc, World.size_setCell, World.size_drew]); omega)))))⟩
end Go.Proofs.Ytlaeibpanipefaa

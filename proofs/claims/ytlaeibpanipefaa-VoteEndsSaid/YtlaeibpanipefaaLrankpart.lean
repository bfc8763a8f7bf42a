import Derived.Test.YtlaeibpanipefaaLrankmedian
set_option linter.unusedSimpArgs false
set_option linter.unusedVariables false
namespace Go.Proofs.Ytlaeibpanipefaa
open Go.RowKit
theorem kth_up (l : List Int) {K K2 : Nat} (h : K ≤ K2) (hK : K2 < l.length) : (srt l).getD K 0 ≤ (srt l).getD K2 0 :=
  (kth_iff l K2 hK _).2 (by have := (kth_iff l K (by omega) ((srt l).getD K 0)).1 (Int.le_refl _); omega)
theorem rank_up {n : Nat} {p p2 q : Int} {K K2 : Nat} (hq : 1 ≤ q) (hp : p ≤ p2) (h1 : max 1 (((n : Int) * p + q - 1) / q) = (K : Int) + 1) (h2 : max 1 (((n : Int) * p2 + q - 1) / q) = (K2 : Int) + 1) : K ≤ K2 := by
  have := Int.mul_le_mul_of_nonneg_left hp (show (0 : Int) ≤ n by omega)
  have := Int.ediv_le_ediv (show 0 < q by omega) (show (n : Int) * p + q - 1 ≤ n * p2 + q - 1 by omega)
  omega
theorem srt_5193 : srt [5, 1, 9, 3] = [1, 3, 5, 9] := srt_eq (by decide) (by decide)

set_option maxRecDepth 100000 in
set_option maxHeartbeats 16000000 in
theorem rankPart_walk (a : Option Addr) (len cap : Nat) (l : List Int) (p q r : Int) (w : World) (hin : InRow w a len cap l) (_ : (Lit.int .i64 p).wf = true) (_ : (Lit.int .i64 q).wf = true) (_ : (Lit.int .i64 r).wf = true) :
    Calls Try.prog 3 #[.slice a len cap, .int .i64 p, .int .i64 q, .int .i64 r] w fun e w' =>
      e = .returned (.bool true) ∧ Below w.heap.size w w' := by
  obtain ⟨ys, n, hy, hn, hm, hb⟩ := vals_facts l
  have hlv : ∀ w', InRow w' a len cap l → _ := fun w' h => values_at a len cap l w' h ys n hy hn
  have hs0 := rank_ok _ 4 4 [5, 1, 9, 3] 1 2 3 1 _ (Row.lit w 3 [5, 1, 9, 3] 4 rfl) (by omega) (by omega) (by decide) (by omega) (by omega) (by decide) (by omega) (by rw [srt_5193]; rfl)
  simp only [List.map_cons, List.map_nil] at hs0
  have HLv := Lib.hid hlv
  have HS0 := Lib.hid hs0
  have HIn := Lib.hid hin
  have b1 := within_bd q (n := 1000) (by omega)
  obtain ⟨Q, e_Q⟩ : ∃ z_, within q 1000 = z_ := ⟨_, rfl⟩
  rw [e_Q] at b1
  have HQ := Lib.hid e_Q
  clear e_Q
  have b2 := within_bd p (n := 1 + Q + 1) (by omega)
  obtain ⟨P, e_P⟩ : ∃ z_, within p (1 + Q + 1) = z_ := ⟨_, rfl⟩
  rw [e_P] at b2
  have HP := Lib.hid e_P
  clear e_P
  have b3 := within_bd r (n := 1 + Q - P + 1) (by omega)
  obtain ⟨R, e_R⟩ : ∃ z_, within r (1 + Q - P + 1) = z_ := ⟨_, rfl⟩
  rw [e_R] at b3
  have HR := Lib.hid e_R
  clear e_R
  have qa := alloc_cells
  have qf := alloc_frozens
  rcases Nat.eq_zero_or_pos n with h0 | h0
  · subst h0
    clear hlv hs0 hin hn hy hb
    go_enter Try.func3, Try.ntmps3
    go_wp2_with fail
    refine (HS0.out).mono ?_
    rintro e w1 ⟨rfl, hb1⟩
    have z1 := hb1.size
    have c1 := Below.cells hb1
    have f1 := Below.frozens hb1
    try simp only [World.size_alloc, World.size_setCell, World.size_drew] at z1 c1 f1
    go_wp2_with fail
    refine (HLv.out _ (HIn.out.below (by repeat (first | (with_reducible exact Below.refl _ _) | ((with_reducible refine Below.alloc ?_ ?_ _); rotate_left; (next => ((try dsimp only); (try simp only [World.size_alloc, World.size_setCell, World.size_drew]); omega))) | ((with_reducible refine Below.setCell ?_ ?_ _); rotate_left; (next => ((try dsimp only); (try simp only [World.size_alloc, World.size_setCell, World.size_drew]); omega))) | (with_reducible refine Below.drew ?_) | ((with_reducible refine Below.trans ?_ (Below.mono hb1 ?_)); rotate_left; (next => ((try dsimp only); (try simp only [World.size_alloc, World.size_setCell, World.size_drew]); omega))))))).mono ?_
    rintro e w2 ⟨A2, cap2, rfl, hrA2, hb2⟩
    have RA2 := Lib.hid hrA2.1
    have EA2 := Lib.hid hrA2.1.each
    have IA2 := Lib.hid hrA2
    have capA2 := hrA2.2.1
    clear hrA2
    have z2 := hb2.size
    have c2 := Below.cells hb2
    have f2 := Below.frozens hb2
    try simp only [World.size_alloc, World.size_setCell, World.size_drew] at z2 c2 f2
    go_wp2_with fail
    go_ret
    exact ⟨rfl, (by repeat (first | (with_reducible exact Below.refl _ _) | ((with_reducible refine Below.alloc ?_ ?_ _); rotate_left; (next => ((try dsimp only); (try simp only [World.size_alloc, World.size_setCell, World.size_drew]); omega))) | ((with_reducible refine Below.setCell ?_ ?_ _); rotate_left; (next => ((try dsimp only); (try simp only [World.size_alloc, World.size_setCell, World.size_drew]); omega))) | (with_reducible refine Below.drew ?_) | ((with_reducible refine Below.trans ?_ (Below.mono hb2 ?_)); rotate_left; (next => ((try dsimp only); (try simp only [World.size_alloc, World.size_setCell, World.size_drew]); omega))) | ((with_reducible refine Below.trans ?_ (Below.mono hb1 ?_)); rotate_left; (next => ((try dsimp only); (try simp only [World.size_alloc, World.size_setCell, World.size_drew]); omega)))))⟩
  · obtain ⟨K, hK, hKn, k1, k2⟩ := kth_rank n P (1 + Q) h0 (by omega) (by omega)
    obtain ⟨K2, hK2, hK2n, _, _⟩ := kth_rank n (P + R) (1 + Q) h0 (by omega) (by omega)
    have hKK := rank_up (by omega) (show P ≤ P + R by omega) hK hK2
    obtain ⟨x, hx⟩ : ∃ x, (srt ys).getD K 0 = x := ⟨_, rfl⟩
    obtain ⟨y, hyy⟩ : ∃ x, (srt ys).getD K2 0 = x := ⟨_, rfl⟩
    have hxy := kth_up ys hKK (by omega)
    have hmem := kth_mem ys K (by omega)
    have g1 := (kth_iff ys K (by omega) x).1 (by omega)
    have g2 : ¬ ((ys.length : Int) - K ≤ cnt (x + 1) ys) := fun h => by
      have := (kth_iff ys K (by omega) (x + 1)).2 h
      omega
    rw [hx, hyy] at hxy
    rw [hx] at hmem
    have hs1 : ∀ A c w', Row w' A n ys → _ := fun A c w' h => rank_ok A n c ys P (1 + Q) x K w' h h0 hm hb (by omega) (by omega) hK hKn hx
    have hs2 : ∀ A c w', Row w' A n ys → _ := fun A c w' h => rank_ok A n c ys (P + R) (1 + Q) y K2 w' h h0 hm hb (by omega) (by omega) hK2 hK2n hyy
    have hs3 : ∀ A c w', Row w' A n ys → _ := fun A c w' h => contains_ok A n c ys x w' h hm hmem
    -- what is counted
    obtain ⟨u, hu⟩ : ∃ u, (n : Int) - cnt (x + 1) ys = u := ⟨_, rfl⟩
    obtain ⟨v, hv⟩ : ∃ v, (n : Int) - cnt x ys = v := ⟨_, rfl⟩
    have cb1 := cnt_bd (x + 1) ys
    have cb2 := cnt_bd x ys
    have ub : (K : Int) + 1 ≤ u ∧ u ≤ 64 := by omega
    have vb : 0 ≤ v ∧ v ≤ K := by omega
    obtain ⟨M, hM⟩ : ∃ M, (n : Int) * P = M := ⟨_, rfl⟩
    have m1 : 0 ≤ (n : Int) * P := Int.mul_nonneg (by omega) b2.1
    have m2 : (n : Int) * P ≤ 64 * 1000 := Int.mul_le_mul (by omega) (by omega) b2.1 (by omega)
    have u1 : ((K : Int) + 1) * (1 + Q) ≤ u * (1 + Q) := Int.mul_le_mul_of_nonneg_right ub.1 (by omega)
    have u2 : u * (1 + Q) ≤ 64 * 1000 := Int.mul_le_mul ub.2 (by omega) (by omega) (by omega)
    have v1 : v * (1 + Q) ≤ (K : Int) * (1 + Q) := Int.mul_le_mul_of_nonneg_right vb.2 (by omega)
    have v9 : (K : Int) * (1 + Q) ≤ 64 * 1000 := Int.mul_le_mul (by omega) (by omega) (by omega) (by omega)
    have v0 : 0 ≤ v * (1 + Q) := Int.mul_nonneg vb.1 (by omega)
    obtain ⟨U, hU⟩ : ∃ U, u * (1 + Q) = U := ⟨_, rfl⟩
    obtain ⟨V, hV⟩ : ∃ V, v * (1 + Q) = V := ⟨_, rfl⟩
    rw [hM] at m1 m2 k1 k2
    rw [hU] at u1 u2
    rw [hV] at v1 v0
    have hMw : IntKind.i64.wrap ((n : Int) * P) = M := by rw [hM]; exact IntWalk.i64_in _ (by omega)
    have hUw : IntKind.i64.wrap (u * (1 + Q)) = U := by rw [hU]; exact IntWalk.i64_in _ (by omega)
    have hVw : IntKind.i64.wrap (v * (1 + Q)) = V := by rw [hV]; exact IntWalk.i64_in _ (by omega)
    have f4 : M ≤ U := by omega
    have f5 : v = 0 ∨ (¬ v = 0 ∧ V < M) := by
      by_cases c : v = 0
      · exact .inl c
      · exact .inr ⟨c, by rcases k2 with k2 | k2 <;> omega⟩
    have HS1 := Lib.hid hs1
    have HS2 := Lib.hid hs2
    have HS3 := Lib.hid hs3
    have HU := Lib.hid hu
    have HV := Lib.hid hv
    have HN := Lib.hid hn
    have n1 : ((n : Int) == 0) = false := by simp; omega
    have HMw := Lib.hid hMw
    have HUw := Lib.hid hUw
    have HVw := Lib.hid hVw
    have e1 : IntKind.i64.wrap (P + R) = P + R := IntWalk.i64_in _ (by omega)
    clear hlv hs0 hs1 hs2 hs3 hin hn hy hb hmem g1 g2 hx hyy hK hK2 k1 k2 hM hU hV hu hv cb1 cb2 hMw hUw hVw u1 u2 v1 v0 m1 m2
    go_enter Try.func3, Try.ntmps3
    go_wp2_with fail
    refine (HS0.out).mono ?_
    rintro e w1 ⟨rfl, hb1⟩
    have z1 := hb1.size
    have c1 := Below.cells hb1
    have f1 := Below.frozens hb1
    try simp only [World.size_alloc, World.size_setCell, World.size_drew] at z1 c1 f1
    go_wp2_with fail
    refine (HLv.out _ (HIn.out.below (by repeat (first | (with_reducible exact Below.refl _ _) | ((with_reducible refine Below.alloc ?_ ?_ _); rotate_left; (next => ((try dsimp only); (try simp only [World.size_alloc, World.size_setCell, World.size_drew]); omega))) | ((with_reducible refine Below.setCell ?_ ?_ _); rotate_left; (next => ((try dsimp only); (try simp only [World.size_alloc, World.size_setCell, World.size_drew]); omega))) | (with_reducible refine Below.drew ?_) | ((with_reducible refine Below.trans ?_ (Below.mono hb1 ?_)); rotate_left; (next => ((try dsimp only); (try simp only [World.size_alloc, World.size_setCell, World.size_drew]); omega))))))).mono ?_
    rintro e w2 ⟨A2, cap2, rfl, hrA2, hb2⟩
    have RA2 := Lib.hid hrA2.1
    have EA2 := Lib.hid hrA2.1.each
    have IA2 := Lib.hid hrA2
    have capA2 := hrA2.2.1
    clear hrA2
    have z2 := hb2.size
    have c2 := Below.cells hb2
    have f2 := Below.frozens hb2
    try simp only [World.size_alloc, World.size_setCell, World.size_drew] at z2 c2 f2
    go_wp2_with fail
    refine (within_any q 1000 Q _ (by omega) (by omega) HQ.out).mono ?_
    rintro e w' ⟨rfl, rfl⟩
    go_wp2_with fail
    refine (within_any p (1 + Q + 1) P _ (by omega) (by omega) HP.out).mono ?_
    rintro e w' ⟨rfl, rfl⟩
    go_wp2_with fail
    refine (HS1.out _ _ _ RA2.out).mono ?_
    rintro e w3 ⟨rfl, hb3⟩
    have z3 := hb3.size
    have c3 := Below.cells hb3
    have f3 := Below.frozens hb3
    try simp only [World.size_alloc, World.size_setCell, World.size_drew] at z3 c3 f3
    go_wp2_with fail
    refine (within_any r (1 + Q - P + 1) R _ (by omega) (by omega) HR.out).mono ?_
    rintro e w' ⟨rfl, rfl⟩
    go_wp2_with fail
    refine (HS2.out _ _ _ (RA2.out.below hb3)).mono ?_
    rintro e w4 ⟨rfl, hb4⟩
    have z4 := hb4.size
    have c4 := Below.cells hb4
    have f4 := Below.frozens hb4
    try simp only [World.size_alloc, World.size_setCell, World.size_drew] at z4 c4 f4
    go_wp2_with fail
    have bel : Below w.heap.size w w4 := (by repeat (first | (with_reducible exact Below.refl _ _) | ((with_reducible refine Below.alloc ?_ ?_ _); rotate_left; (next => ((try dsimp only); (try simp only [World.size_alloc, World.size_setCell, World.size_drew]); omega))) | ((with_reducible refine Below.setCell ?_ ?_ _); rotate_left; (next => ((try dsimp only); (try simp only [World.size_alloc, World.size_setCell, World.size_drew]); omega))) | (with_reducible refine Below.drew ?_) | ((with_reducible refine Below.trans ?_ (Below.mono hb4 ?_)); rotate_left; (next => ((try dsimp only); (try simp only [World.size_alloc, World.size_setCell, World.size_drew]); omega))) | ((with_reducible refine Below.trans ?_ (Below.mono hb3 ?_)); rotate_left; (next => ((try dsimp only); (try simp only [World.size_alloc, World.size_setCell, World.size_drew]); omega))) | ((with_reducible refine Below.trans ?_ (Below.mono hb2 ?_)); rotate_left; (next => ((try dsimp only); (try simp only [World.size_alloc, World.size_setCell, World.size_drew]); omega))) | ((with_reducible refine Below.trans ?_ (Below.mono hb1 ?_)); rotate_left; (next => ((try dsimp only); (try simp only [World.size_alloc, World.size_setCell, World.size_drew]); omega)))))
    have HE := Lib.hid ((RA2.out.below hb3).below hb4).each
    have HRow := Lib.hid ((RA2.out.below hb3).below hb4)
    clear c1 c2 c3 c4 f1 f2 f3 f4
    have hys := HN.out
    go_loop [15, 16, 65] (fun s t i => ∃ (k : Nat) (E F : Int), k ≤ n ∧ i = .int .i64 k ∧ s = .int .i64 E ∧ t = .int .i64 F ∧ (0 ≤ F ∧ F ≤ k ∧ 0 ≤ E ∧ E ≤ k) ∧ (k : Int) - cnt (x + 1) (ys.take k) = E ∧ (k : Int) - cnt x (ys.take k) = F) (fun _ _ i => n - (intOf i).toNat)
    case atStart => exact ⟨0, 0, 0, Nat.zero_le _, rfl, rfl, rfl, by omega, by simp [cnt], by simp [cnt]⟩
    case round =>
      obtain ⟨k, E, F, hk, rfl, rfl, rfl, hEF, hE, hF⟩ := hrel
      by_cases hlt : k < n
      · have s1 := cnt_snoc (x + 1) ys (k := k) (by omega)
        have s2 := cnt_snoc x ys (k := k) (by omega)
        obtain ⟨bkz, offz, hAz, ltz, hrz⟩ := HE.out k hlt
        subst hAz
        obtain ⟨z, hvz, hxz⟩ := name_num hrz
        have HZ := Lib.hid hvz
        clear hvz hrz
        rw [← HZ.out] at s1 s2
        have cs : (z < x ∧ (k + 1 : Int) - cnt (x + 1) (ys.take (k + 1)) = E + 1 ∧ (k + 1 : Int) - cnt x (ys.take (k + 1)) = F + 1) ∨ (z = x ∧ (k + 1 : Int) - cnt (x + 1) (ys.take (k + 1)) = E + 1 ∧ (k + 1 : Int) - cnt x (ys.take (k + 1)) = F) ∨
            (x < z ∧ (k + 1 : Int) - cnt (x + 1) (ys.take (k + 1)) = E ∧ (k + 1 : Int) - cnt x (ys.take (k + 1)) = F) := by
          rcases Int.lt_trichotomy z x with c | c | c
          · rw [if_neg (by omega)] at s1 s2; exact .inl ⟨c, by omega, by omega⟩
          · rw [if_neg (by omega)] at s1; rw [if_pos (by omega)] at s2; exact .inr (.inl ⟨c, by omega, by omega⟩)
          · rw [if_pos (by omega)] at s1 s2; exact .inr (.inr ⟨c, by omega, by omega⟩)
        clear s1 s2 hE hF hys
        rcases cs with ⟨c, c1, c2⟩ | ⟨rfl, c1, c2⟩ | ⟨c, c1, c2⟩
        · have C1 := Lib.hid c1
          have C2 := Lib.hid c2
          have c3 : z ≤ x := by omega
          clear c1 c2
          go_wp2_with fail
          go_round
          case rel => exact ⟨k + 1, E + 1, F + 1, by omega, by go_num, by go_num, by go_num, by omega, by have := C1.out; omega, by have := C2.out; omega⟩
          case measure => simp [intOf]; omega
        · have C1 := Lib.hid c1
          have C2 := Lib.hid c2
          have c3 : ¬ z < z := by omega
          clear c1 c2
          go_wp2_with fail
          go_round
          case rel => exact ⟨k + 1, E + 1, F, by omega, by go_num, by go_num, by go_num, by omega, by have := C1.out; omega, by have := C2.out; omega⟩
          case measure => simp [intOf]; omega
        · have C1 := Lib.hid c1
          have C2 := Lib.hid c2
          have c3 : ¬ z ≤ x := by omega
          have c4 : ¬ z < x := by omega
          clear c1 c2
          go_wp2_with fail
          go_round
          case rel => exact ⟨k + 1, E, F, by omega, by go_num, by go_num, by go_num, by omega, by have := C1.out; omega, by have := C2.out; omega⟩
          case measure => simp [intOf]; omega
      · obtain rfl : n = k := by omega
        rw [List.take_of_length_le (by omega), HU.out] at hE
        rw [List.take_of_length_le (by omega), HV.out] at hF
        subst hE hF
        clear hys
        have hMw := HMw.out
        have hUw := HUw.out
        have hVw := HVw.out
        rcases f5 with rfl | ⟨v1, v2⟩
        · go_wp2_with fail
          refine (HS3.out _ _ _ HRow.out).mono ?_
          rintro e w' ⟨rfl, rfl⟩
          go_wp2_with fail
          go_ret
          exact ⟨rfl, bel⟩
        · have v3 : (v == 0) = false := by simpa using v1
          go_wp2_with fail
          refine (HS3.out _ _ _ HRow.out).mono ?_
          rintro e w' ⟨rfl, rfl⟩
          go_wp2_with fail
          go_ret
          exact ⟨rfl, bel⟩
end Go.Proofs.Ytlaeibpanipefaa

import Derived.Test.YtmahmeopehhjfaaSu
import Derived.Test.YtmahmeopehhjfaaCl
import Derived.Test.YtmahmeopehhjfaaMm
set_option linter.unusedSimpArgs false
set_option linter.unusedVariables false
namespace Go.Proofs.Ytmahmeopehhjfaa
open Go.RowKit

theorem mean_btw {l : List Int} {lo hi : Int} (h : Btw lo hi l) (h0 : 0 < l.length) : lo ≤ sumI l / l.length ∧ sumI l / l.length ≤ hi := by
  have a : (l.length : Int) * lo ≤ sumI l ∧ sumI l ≤ l.length * hi := by
    clear h0
    induction l with
    | nil => simp [sumI]
    | cons x l ih =>
      have a := ih h.tail
      have b := h.head
      simp only [sumI, List.length_cons, Int.natCast_add, Int.add_mul]
      omega
  constructor
  · rw [Int.le_ediv_iff_mul_le (by omega), Int.mul_comm]; exact a.1
  · have := Int.ediv_le_of_le_mul (a := sumI l) (b := hi) (c := l.length) (by omega) (by rw [Int.mul_comm]; exact a.2)
    exact this
theorem mean_more {n S x m k : Int} (hn : 0 < n) (hm : S / n = m) (hk : (S + x) / (n + 1) = k) : (x ≤ m → k ≤ m) ∧ (m ≤ x → m ≤ k) := by
  have e1 := Int.mul_ediv_add_emod S n
  have e2 := Int.emod_nonneg S (show n ≠ 0 by omega)
  have e3 := Int.emod_lt_of_pos S hn
  rw [hm] at e1
  subst hk
  constructor
  · intro h
    have : (S + x) / (n + 1) < m + 1 := Int.ediv_lt_of_lt_mul (by omega) (by rw [show (m + 1) * (n + 1) = n * m + m + n + 1 by grind]; omega)
    omega
  · intro h
    rw [Int.le_ediv_iff_mul_le (by omega), show m * (n + 1) = n * m + m by grind]
    omega

set_option maxRecDepth 100000 in
set_option maxHeartbeats 4000000 in
theorem statMean_walk (a : Option Addr) (len cap : Nat) (l : List Int) (p : Int) (w : World) (hin : InRow w a len cap l) (_ : (Lit.int .i64 p).wf = true) :
    Calls Try.prog 13 #[.slice a len cap, .int .i64 p] w fun e w' =>
      e = .returned (.bool true) ∧ Below w.heap.size w w' := by
  obtain ⟨ys, n, S, Q, X, hy, hn, hm, hb, hS, hQ, hX, hsp, ok⟩ := stat_pack l
  have hval : ∀ w', InRow w' a len cap l → _ := fun w' h => values_at a len cap l w' h ys n hy hn
  have HVal := Lib.hid hval
  have HIn := Lib.hid hin
  have qa := alloc_cells
  have qf := alloc_frozens
  rcases Nat.eq_zero_or_pos n with h0 | h0
  · subst h0
    clear hval hin hb hn hy ok hsp hS hQ hX hm
    go_enter Try.func13, Try.ntmps13
    go_wp2_with fail
    refine (mean_ok 2 5 13 2 (by unfold SumsOK; omega) (by omega) (by decide) _).mono ?_
    rintro e w1 ⟨rfl, hb1⟩
    have z1 := hb1.size
    have c1 := Below.cells hb1
    have f1 := Below.frozens hb1
    try simp only [World.size_alloc, World.size_setCell, World.size_drew] at z1 c1 f1
    go_wp2_with fail
    refine (HVal.out _ (HIn.out.below (by repeat (first | (with_reducible exact Below.refl _ _) | ((with_reducible refine Below.alloc ?_ ?_ _); rotate_left; (next => ((try dsimp only); (try simp only [World.size_alloc, World.size_setCell, World.size_drew]); omega))) | ((with_reducible refine Below.setCell ?_ ?_ _); rotate_left; (next => ((try dsimp only); (try simp only [World.size_alloc, World.size_setCell, World.size_drew]); omega))) | (with_reducible refine Below.drew ?_) | ((with_reducible refine Below.trans ?_ (Below.mono hb1 ?_)); rotate_left; (next => ((try dsimp only); (try simp only [World.size_alloc, World.size_setCell, World.size_drew]); omega))))))).mono ?_
    rintro e w2 ⟨A, c, rfl, hrA, hb2⟩
    have RA := Lib.hid hrA.1
    have EA := Lib.hid hrA.1.each
    have IA := Lib.hid hrA
    have capA := hrA.2.1
    clear hrA
    have z2 := hb2.size
    have c2 := Below.cells hb2
    have f2 := Below.frozens hb2
    try simp only [World.size_alloc, World.size_setCell, World.size_drew] at z2 c2 f2
    go_wp2_with fail
    go_ret
    exact ⟨rfl, (by repeat (first | (with_reducible exact Below.refl _ _) | ((with_reducible refine Below.alloc ?_ ?_ _); rotate_left; (next => ((try dsimp only); (try simp only [World.size_alloc, World.size_setCell, World.size_drew]); omega))) | ((with_reducible refine Below.setCell ?_ ?_ _); rotate_left; (next => ((try dsimp only); (try simp only [World.size_alloc, World.size_setCell, World.size_drew]); omega))) | (with_reducible refine Below.drew ?_) | ((with_reducible refine Below.trans ?_ (Below.mono hb2 ?_)); rotate_left; (next => ((try dsimp only); (try simp only [World.size_alloc, World.size_setCell, World.size_drew]); omega))) | ((with_reducible refine Below.trans ?_ (Below.mono hb1 ?_)); rotate_left; (next => ((try dsimp only); (try simp only [World.size_alloc, World.size_setCell, World.size_drew]); omega)))))⟩
  have hne : ((n : Int) == 0) = false := by simp; omega
  by_cases h64 : n = 64
  · subst h64
    clear hval hin hb hn hy ok hsp hS hQ hX hm
    go_enter Try.func13, Try.ntmps13
    go_wp2_with fail
    refine (mean_ok 2 5 13 2 (by unfold SumsOK; omega) (by omega) (by decide) _).mono ?_
    rintro e w1 ⟨rfl, hb1⟩
    have z1 := hb1.size
    have c1 := Below.cells hb1
    have f1 := Below.frozens hb1
    try simp only [World.size_alloc, World.size_setCell, World.size_drew] at z1 c1 f1
    go_wp2_with fail
    refine (HVal.out _ (HIn.out.below (by repeat (first | (with_reducible exact Below.refl _ _) | ((with_reducible refine Below.alloc ?_ ?_ _); rotate_left; (next => ((try dsimp only); (try simp only [World.size_alloc, World.size_setCell, World.size_drew]); omega))) | ((with_reducible refine Below.setCell ?_ ?_ _); rotate_left; (next => ((try dsimp only); (try simp only [World.size_alloc, World.size_setCell, World.size_drew]); omega))) | (with_reducible refine Below.drew ?_) | ((with_reducible refine Below.trans ?_ (Below.mono hb1 ?_)); rotate_left; (next => ((try dsimp only); (try simp only [World.size_alloc, World.size_setCell, World.size_drew]); omega))))))).mono ?_
    rintro e w2 ⟨A, c, rfl, hrA, hb2⟩
    have RA := Lib.hid hrA.1
    have EA := Lib.hid hrA.1.each
    have IA := Lib.hid hrA
    have capA := hrA.2.1
    clear hrA
    have z2 := hb2.size
    have c2 := Below.cells hb2
    have f2 := Below.frozens hb2
    try simp only [World.size_alloc, World.size_setCell, World.size_drew] at z2 c2 f2
    go_wp2_with fail
    go_ret
    exact ⟨rfl, (by repeat (first | (with_reducible exact Below.refl _ _) | ((with_reducible refine Below.alloc ?_ ?_ _); rotate_left; (next => ((try dsimp only); (try simp only [World.size_alloc, World.size_setCell, World.size_drew]); omega))) | ((with_reducible refine Below.setCell ?_ ?_ _); rotate_left; (next => ((try dsimp only); (try simp only [World.size_alloc, World.size_setCell, World.size_drew]); omega))) | (with_reducible refine Below.drew ?_) | ((with_reducible refine Below.trans ?_ (Below.mono hb2 ?_)); rotate_left; (next => ((try dsimp only); (try simp only [World.size_alloc, World.size_setCell, World.size_drew]); omega))) | ((with_reducible refine Below.trans ?_ (Below.mono hb1 ?_)); rotate_left; (next => ((try dsimp only); (try simp only [World.size_alloc, World.size_setCell, World.size_drew]); omega)))))⟩
  · have hne2 : ((n : Int) == 64) = false := by simp; omega
    obtain ⟨lo, hlo⟩ := IsMin.ex (l := ys) (by omega)
    obtain ⟨hi', hhi⟩ := IsMax.ex (l := ys) (by omega)
    have hbt : Btw lo hi' ys := fun x hx => ⟨hlo.2 x hx, hhi.2 x hx⟩
    have b1 := within_bd p (n := 16777217) (by omega)
    obtain ⟨P, e_P⟩ : ∃ z_, within p 16777217 = z_ := ⟨_, rfl⟩
    rw [e_P] at b1
    have HP := Lib.hid e_P
    clear e_P
    have t1 := mean_btw hbt (by omega)
    rw [hn, hS] at t1
    have ok2 := sumsOK_snoc hb (by omega) (x := P) (by omega)
    rw [hn, hS, hQ] at ok2
    have hb2 := hb.append (Btw.one (x := P) b1.1 (by omega))
    have e1 : sumI (ys ++ [P]) = S + P := by rw [sumI_append, hS]; simp [sumI]
    have e2 : sqI (ys ++ [P]) = Q + P * P := by rw [sqI_append, hQ]; simp [sqI]
    obtain ⟨M, hM⟩ : ∃ M, S / (n : Int) = M := ⟨_, rfl⟩
    obtain ⟨K, hK⟩ : ∃ K, (S + P) / ((n : Int) + 1) = K := ⟨_, rfl⟩
    have t2 := mean_more (by omega) hM hK
    rw [hM] at t1
    have hcs : (P < M ∧ K ≤ M) ∨ (P = M ∧ K ≤ M ∧ M ≤ K) ∨ (M < P ∧ M ≤ K) := by
      rcases Int.lt_trichotomy P M with h | h | h
      · exact .inl ⟨h, t2.1 (by omega)⟩
      · exact .inr (.inl ⟨h, t2.1 (by omega), t2.2 (by omega)⟩)
      · exact .inr (.inr ⟨h, t2.2 (by omega)⟩)
    have hsum : ∀ A c w', Row w' A n ys → _ := fun A c w' h => sums_ok A n c ys S Q w' h hm hb hS hQ
    have hsum2 : ∀ A c w', Row w' A (n + 1) (ys ++ [P]) → _ := fun A c w' h => sums_ok A (n + 1) c (ys ++ [P]) (S + P) (Q + P * P) w' h (by omega) hb2 e1 e2
    have hmean : ∀ w', _ := fun w' => mean_ok n S Q M ok (by omega) hM w'
    have hmean2 : ∀ w', _ := fun w' => mean_ok (n + 1) (S + P) (Q + P * P) K ok2 (by omega) hK w'
    have hmin : ∀ A c w', Row w' A n ys → _ := fun A c w' h => min_ok A n c ys lo w' h h0 (by omega) hlo
    have hmax : ∀ A c w', Row w' A n ys → _ := fun A c w' h => max_ok A n c ys hi' w' h h0 (by omega) hhi
    have hcl : ∀ A c w', Row w' A n ys → _ := fun A c w' h => clone_own A n c ys w' h (by omega)
    have HSum := Lib.hid hsum
    have HSum2 := Lib.hid hsum2
    have HMean := Lib.hid hmean
    have HMean2 := Lib.hid hmean2
    have HMin := Lib.hid hmin
    have HMax := Lib.hid hmax
    have HCl := Lib.hid hcl
    obtain ⟨i0, hi, hz0, hz1, hz2⟩ := info_parts info_int
    clear hval hsum hsum2 hmean hmean2 hmin hmax hcl hin hb hb2 hn hy ok ok2 hsp hS hQ hX hlo hhi hbt e1 e2 hM hK t2
    rcases hcs with ⟨u1, u2⟩ | ⟨rfl, u2, u3⟩ | ⟨u1, u2⟩
    all_goals
      go_enter Try.func13, Try.ntmps13
      go_wp2_with fail
      refine (mean_ok 2 5 13 2 (by unfold SumsOK; omega) (by omega) (by decide) _).mono ?_
      rintro e w1 ⟨rfl, hb1⟩
      have z1 := hb1.size
      have c1 := Below.cells hb1
      have f1 := Below.frozens hb1
      try simp only [World.size_alloc, World.size_setCell, World.size_drew] at z1 c1 f1
      go_wp2_with fail
      refine (HVal.out _ (HIn.out.below (by repeat (first | (with_reducible exact Below.refl _ _) | ((with_reducible refine Below.alloc ?_ ?_ _); rotate_left; (next => ((try dsimp only); (try simp only [World.size_alloc, World.size_setCell, World.size_drew]); omega))) | ((with_reducible refine Below.setCell ?_ ?_ _); rotate_left; (next => ((try dsimp only); (try simp only [World.size_alloc, World.size_setCell, World.size_drew]); omega))) | (with_reducible refine Below.drew ?_) | ((with_reducible refine Below.trans ?_ (Below.mono hb1 ?_)); rotate_left; (next => ((try dsimp only); (try simp only [World.size_alloc, World.size_setCell, World.size_drew]); omega))))))).mono ?_
      rintro e w2 ⟨A, c, rfl, hrA, hb2⟩
      have RA := Lib.hid hrA.1
      have EA := Lib.hid hrA.1.each
      have IA := Lib.hid hrA
      have capA := hrA.2.1
      clear hrA
      have z2 := hb2.size
      have c2 := Below.cells hb2
      have f2 := Below.frozens hb2
      try simp only [World.size_alloc, World.size_setCell, World.size_drew] at z2 c2 f2
      go_wp2_with fail
      refine (HSum.out A c _ RA.out).mono ?_
      rintro e w3 ⟨rfl, hb3⟩
      have z3 := hb3.size
      have c3 := Below.cells hb3
      have f3 := Below.frozens hb3
      try simp only [World.size_alloc, World.size_setCell, World.size_drew] at z3 c3 f3
      go_wp2_with fail
      refine (HMean.out _).mono ?_
      rintro e w4 ⟨rfl, hb4⟩
      have z4 := hb4.size
      have c4 := Below.cells hb4
      have f4 := Below.frozens hb4
      try simp only [World.size_alloc, World.size_setCell, World.size_drew] at z4 c4 f4
      go_wp2_with fail
      refine (within_any p 16777217 _ _ (by omega) (by omega) HP.out).mono ?_
      rintro e w' ⟨rfl, rfl⟩
      go_wp2_with fail
      refine (HCl.out A c _ (RA.out.below (by repeat (first | (with_reducible exact Below.refl _ _) | ((with_reducible refine Below.alloc ?_ ?_ _); rotate_left; (next => ((try dsimp only); (try simp only [World.size_alloc, World.size_setCell, World.size_drew]); omega))) | ((with_reducible refine Below.setCell ?_ ?_ _); rotate_left; (next => ((try dsimp only); (try simp only [World.size_alloc, World.size_setCell, World.size_drew]); omega))) | (with_reducible refine Below.drew ?_) | ((with_reducible refine Below.trans ?_ (Below.mono hb4 ?_)); rotate_left; (next => ((try dsimp only); (try simp only [World.size_alloc, World.size_setCell, World.size_drew]); omega))) | ((with_reducible refine Below.trans ?_ (Below.mono hb3 ?_)); rotate_left; (next => ((try dsimp only); (try simp only [World.size_alloc, World.size_setCell, World.size_drew]); omega))))))).mono ?_
      rintro e w5 ⟨v5, rfl, own5, hb5⟩
      have z5 := hb5.size
      go_wp2_with (at_builtin; refine wpList_append_own _ rfl _ _ 22 rfl (w4.heap.size) 3 i0 (.int .i64 0) 1 8 Try.underlying22 hi hz0 hz1 hz2 rfl (by decide) _ _ _ rfl (World.ownsRow.alloc own5 _) ⟨w5.heap.size, 0, none⟩ 1 1 [.int .i64 (_)] rfl rfl (app1_cells _ _ _) (app1_one _ _) (by unfold maxLen; omega) (by omega) (by simp; omega) ?_)
      intro v6 w6 own6 gr6 _
      have r6 := own_snoc own6
      have hb6 : Below w4.heap.size w4 w6 := (hb5.alloc z5 _).grown gr6 (by simp; omega) (fun g hg => (own5.lt g hg).1)
      have z6 := hb6.size
      obtain ⟨A6, c6, rfl, q1, q2⟩ := own_form r6
      have R6 := Lib.hid (Row.of_own r6)
      clear own6 gr6 r6 own5
      go_wp2_with fail
      refine (HSum2.out A6 c6 _ R6.out).mono ?_
      rintro e w7 ⟨rfl, hb7⟩
      have z7 := hb7.size
      have c7 := Below.cells hb7
      have f7 := Below.frozens hb7
      try simp only [World.size_alloc, World.size_setCell, World.size_drew] at z7 c7 f7
      go_wp2_with fail
      refine (HMean2.out _).mono ?_
      rintro e w8 ⟨rfl, hb8⟩
      have z8 := hb8.size
      have c8 := Below.cells hb8
      have f8 := Below.frozens hb8
      try simp only [World.size_alloc, World.size_setCell, World.size_drew] at z8 c8 f8
      go_wp2_with fail
      refine (HMin.out A c _ (RA.out.below (by repeat (first | (with_reducible exact Below.refl _ _) | ((with_reducible refine Below.alloc ?_ ?_ _); rotate_left; (next => ((try dsimp only); (try simp only [World.size_alloc, World.size_setCell, World.size_drew]); omega))) | ((with_reducible refine Below.setCell ?_ ?_ _); rotate_left; (next => ((try dsimp only); (try simp only [World.size_alloc, World.size_setCell, World.size_drew]); omega))) | (with_reducible refine Below.drew ?_) | ((with_reducible refine Below.trans ?_ (Below.mono hb8 ?_)); rotate_left; (next => ((try dsimp only); (try simp only [World.size_alloc, World.size_setCell, World.size_drew]); omega))) | ((with_reducible refine Below.trans ?_ (Below.mono hb7 ?_)); rotate_left; (next => ((try dsimp only); (try simp only [World.size_alloc, World.size_setCell, World.size_drew]); omega))) | ((with_reducible refine Below.trans ?_ (Below.mono hb6 ?_)); rotate_left; (next => ((try dsimp only); (try simp only [World.size_alloc, World.size_setCell, World.size_drew]); omega))) | ((with_reducible refine Below.trans ?_ (Below.mono hb4 ?_)); rotate_left; (next => ((try dsimp only); (try simp only [World.size_alloc, World.size_setCell, World.size_drew]); omega))) | ((with_reducible refine Below.trans ?_ (Below.mono hb3 ?_)); rotate_left; (next => ((try dsimp only); (try simp only [World.size_alloc, World.size_setCell, World.size_drew]); omega))))))).mono ?_
      rintro e w' ⟨rfl, rfl⟩
      go_wp2_with fail
      refine (HMax.out A c _ (RA.out.below (by repeat (first | (with_reducible exact Below.refl _ _) | ((with_reducible refine Below.alloc ?_ ?_ _); rotate_left; (next => ((try dsimp only); (try simp only [World.size_alloc, World.size_setCell, World.size_drew]); omega))) | ((with_reducible refine Below.setCell ?_ ?_ _); rotate_left; (next => ((try dsimp only); (try simp only [World.size_alloc, World.size_setCell, World.size_drew]); omega))) | (with_reducible refine Below.drew ?_) | ((with_reducible refine Below.trans ?_ (Below.mono hb8 ?_)); rotate_left; (next => ((try dsimp only); (try simp only [World.size_alloc, World.size_setCell, World.size_drew]); omega))) | ((with_reducible refine Below.trans ?_ (Below.mono hb7 ?_)); rotate_left; (next => ((try dsimp only); (try simp only [World.size_alloc, World.size_setCell, World.size_drew]); omega))) | ((with_reducible refine Below.trans ?_ (Below.mono hb6 ?_)); rotate_left; (next => ((try dsimp only); (try simp only [World.size_alloc, World.size_setCell, World.size_drew]); omega))) | ((with_reducible refine Below.trans ?_ (Below.mono hb4 ?_)); rotate_left; (next => ((try dsimp only); (try simp only [World.size_alloc, World.size_setCell, World.size_drew]); omega))) | ((with_reducible refine Below.trans ?_ (Below.mono hb3 ?_)); rotate_left; (next => ((try dsimp only); (try simp only [World.size_alloc, World.size_setCell, World.size_drew]); omega))))))).mono ?_
      rintro e w' ⟨rfl, rfl⟩
      go_wp2_with fail
      go_ret
      exact ⟨rfl, (by repeat (first | (with_reducible exact Below.refl _ _) | ((with_reducible refine Below.alloc ?_ ?_ _); rotate_left; (next => ((try dsimp only); (try simp only [World.size_alloc, World.size_setCell, World.size_drew]); omega))) | ((with_reducible refine Below.setCell ?_ ?_ _); rotate_left; (next => ((try dsimp only); (try simp only [World.size_alloc, World.size_setCell, World.size_drew]); omega))) | (with_reducible refine Below.drew ?_) | ((with_reducible refine Below.trans ?_ (Below.mono hb8 ?_)); rotate_left; (next => ((try dsimp only); (try simp only [World.size_alloc, World.size_setCell, World.size_drew]); omega))) | ((with_reducible refine Below.trans ?_ (Below.mono hb7 ?_)); rotate_left; (next => ((try dsimp only); (try simp only [World.size_alloc, World.size_setCell, World.size_drew]); omega))) | ((with_reducible refine Below.trans ?_ (Below.mono hb6 ?_)); rotate_left; (next => ((try dsimp only); (try simp only [World.size_alloc, World.size_setCell, World.size_drew]); omega))) | ((with_reducible refine Below.trans ?_ (Below.mono hb4 ?_)); rotate_left; (next => ((try dsimp only); (try simp only [World.size_alloc, World.size_setCell, World.size_drew]); omega))) | ((with_reducible refine Below.trans ?_ (Below.mono hb3 ?_)); rotate_left; (next => ((try dsimp only); (try simp only [World.size_alloc, World.size_setCell, World.size_drew]); omega))) | ((with_reducible refine Below.trans ?_ (Below.mono hb2 ?_)); rotate_left; (next => ((try dsimp only); (try simp only [World.size_alloc, World.size_setCell, World.size_drew]); omega))) | ((with_reducible refine Below.trans ?_ (Below.mono hb1 ?_)); rotate_left; (next => ((try dsimp only); (try simp only [World.size_alloc, World.size_setCell, World.size_drew]); omega)))))⟩
end Go.Proofs.Ytmahmeopehhjfaa

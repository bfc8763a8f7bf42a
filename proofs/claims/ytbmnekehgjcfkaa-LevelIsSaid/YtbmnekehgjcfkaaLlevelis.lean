import Derived.Test.YtbmnekehgjcfkaaLw
set_option linter.unusedSimpArgs false
set_option linter.unusedVariables false
namespace Go.Proofs.Ytbmnekehgjcfkaa
open Go.RowKit

set_option maxRecDepth 100000 in
set_option maxHeartbeats 16000000 in
theorem levelIs_walk (a : Option Addr) (len cap : Nat) (l : List Int) (p q r : Int) (w : World) (hin : InRow w a len cap l) (_ : (Lit.int .i64 p).wf = true) (_ : (Lit.int .i64 q).wf = true) (_ : (Lit.int .i64 r).wf = true) :
    Calls Try.prog 14 #[.slice a len cap, .int .i64 p, .int .i64 q, .int .i64 r] w fun e w' =>
      e = .returned (.bool true) ∧ Below w.heap.size w w' := by
  obtain ⟨ys, n, S, Q, X, hy, hn, h1, hm, hb, hS, hQ, hX, ok, Xb⟩ := lev_pack l
  have b1 := within_bd p (n := 10000) (by omega)
  have b2 := within_bd q (n := 4194304) (by omega)
  have b3 := within_bd r (n := 60) (by omega)
  obtain ⟨P, e_P⟩ : ∃ z_, within p 10000 = z_ := ⟨_, rfl⟩
  rw [e_P] at b1
  have HP := Lib.hid e_P
  clear e_P
  obtain ⟨T, e_T⟩ : ∃ z_, within q 4194304 = z_ := ⟨_, rfl⟩
  rw [e_T] at b2
  have HT := Lib.hid e_T
  clear e_T
  obtain ⟨R, e_R⟩ : ∃ z_, within r 60 = z_ := ⟨_, rfl⟩
  rw [e_R] at b3
  have HR := Lib.hid e_R
  clear e_R
  have bd := ok.bd
  obtain ⟨L, hL⟩ : ∃ L, 1 + P = L := ⟨_, rfl⟩
  obtain ⟨H, hH⟩ : ∃ H, 1 + R = H := ⟨_, rfl⟩
  have Lb : 1 ≤ L ∧ L ≤ 10000 := by omega
  have Hb : 1 ≤ H ∧ H ≤ 60 := by omega
  have a1 := mul_bd (a := (n : Int)) (b := n) (A := 64) (B := 64) (by omega) (by omega)
  have a2 := mul_bd a1 (b := L) (B := 10000) (by omega)
  have a3 := mul_bd a2 (b := L) (B := 10000) (by omega)
  have a4 := mul_bd (a := (n : Int)) (b := T) (A := 64) (B := 4194304) (by omega) (by omega)
  obtain ⟨N, hN⟩ : ∃ N, lfl n X L = N := ⟨_, rfl⟩
  have Nb := lfl_bd (n := n) (L := L) (by omega) Xb (by omega)
  rw [hN] at Nb
  obtain ⟨D, hD⟩ : ∃ D, late0 n S T = D := ⟨_, rfl⟩
  have Db := late0_bd (n := n) (S := S) (T := T) (by omega) (by omega) (by omega)
  rw [hD] at Db
  obtain ⟨k, hk⟩ := levR_ex Nb Db
  have hge := hk.ge Nb.1 (show 0 ≤ H by omega)
  have k0 := hk.1
  have hcN : (X < (n : Int) * n * L * L ∧ N = n * n * L * L) ∨ (¬ X < (n : Int) * n * L * L ∧ N = X) := by
    unfold lfl at hN
    by_cases q : X < (n : Int) * n * L * L
    · rw [if_pos q] at hN; exact .inl ⟨q, hN.symm⟩
    · rw [if_neg q] at hN; exact .inr ⟨q, hN.symm⟩
  have hcD : (0 < (n : Int) * T - S ∧ D = n * T - S) ∨ (¬ 0 < (n : Int) * T - S ∧ D = 0) := by
    unfold late0 at hD
    by_cases q : 0 < (n : Int) * T - S
    · rw [if_pos q] at hD; exact .inl ⟨q, hD.symm⟩
    · rw [if_neg q] at hD; exact .inr ⟨q, hD.symm⟩
  have DD := mul_bd Db Db
  have uD : U64 D := by unfold U64; omega
  have uN : U64 N := by unfold U64; omega
  have uDD : U128 (D * D) := by unfold U128; omega
  have uA : U128 (N + D * D) := by unfold U128; omega
  have pH : (2 : Int) ^ H.toNat ≤ 2 ^ 60 := pow_le (by omega)
  have pN : N * 2 ^ H.toNat ≤ 1152921504606846976 * 2 ^ 60 := Int.mul_le_mul Nb.2 pH (Int.le_of_lt (p2 _)) (by omega)
  have pz : 0 ≤ N * 2 ^ H.toNat := Int.mul_nonneg (by omega) (Int.le_of_lt (p2 _))
  obtain ⟨G, hG⟩ : ∃ G, N * 2 ^ H.toNat = G := ⟨_, rfl⟩
  rw [hG] at hge pN pz
  have uG : U128 G := by unfold U128; simp only [Int.reducePow, Int.reduceMul] at pN; omega
  have hcmp : ∃ z : Int, ((H ≤ k ∧ 0 ≤ z) ∨ (¬ H ≤ k ∧ ¬ 0 ≤ z)) ∧ ∀ w', Calls Try.prog 29 #[.agg #[.int .u64 (hi (N + D * D)), .int .u64 (lo (N + D * D))], .agg #[.int .u64 (hi G), .int .u64 (lo G)]] w' fun e w'' => e = .returned (.int .i64 z) ∧ Below w'.heap.size w' w'' := by
    rcases Int.lt_trichotomy (N + D * D) G with c | c | c
    · exact ⟨-1, .inr ⟨by omega, by omega⟩, fun w' => cmp_lt _ _ (Wd.mk uA) (Wd.mk uG) c w'⟩
    · refine ⟨0, .inl ⟨by omega, by omega⟩, fun w' => ?_⟩
      have := cmp_eq (N + D * D) (Wd.mk uA) (Wd.mk uA) w'
      rw [c] at this ⊢
      exact this
    · exact ⟨1, .inl ⟨by omega, by omega⟩, fun w' => cmp_gt _ _ (Wd.mk uA) (Wd.mk uG) c w'⟩
  obtain ⟨z, hz, hcmp⟩ := hcmp
  have hwin : ∀ w', InRow w' a len cap l → _ := fun w' h => window_any a len cap l w' h ys n hy hn
  have hlev : ∀ A c w', Row w' A n ys → _ := fun A c w' h => level_ok 64 L T S Q X N k A n c ys w' h (by omega) (by omega) (by omega) hb (by omega) (by omega) hS hQ ok hX hN (by rw [hD]; exact hk)
  have hsum : ∀ A c w', Row w' A n ys → _ := fun A c w' h => sums_ok A n c ys S Q w' h (by omega) hb hS hQ
  have hspr : ∀ w', _ := fun w' => spread_ok n S Q X ok hX w'
  have hnum : ∀ w', _ := fun w' => num_any N w' (by omega) (by omega)
  have hmul : ∀ w', _ := fun w' => mul_any D D (D * D) w' uD uD rfl
  have hadd : ∀ w', _ := fun w' => add_ok N (D * D) (N + D * D) (Wd.lit uN) (Wd.mk uDD) rfl uA w'
  have hshl : ∀ w', _ := fun w' => shl_ok N H G (Wd.lit uN) w' (by omega) (by omega) hG uG
  have HWin := Lib.hid hwin
  have HLev := Lib.hid hlev
  have HSum := Lib.hid hsum
  have HSpr := Lib.hid hspr
  have HNum := Lib.hid hnum
  have HMul := Lib.hid hmul
  have HAdd := Lib.hid hadd
  have HShl := Lib.hid hshl
  have HCmp := Lib.hid hcmp
  have HIn := Lib.hid hin
  have qa := alloc_cells
  have qf := alloc_frozens
  clear hwin hlev hsum hspr hnum hmul hadd hshl hcmp hin hb hn hy hS hQ hX ok hN hk hge hD hG DD uD uN uDD uA uG pH pN pz
  have zd1 : ¬ 0 ≤ z → decide (0 ≤ z) = false := fun h => by simpa using h
  have zd2 : ¬ H ≤ k → decide (H ≤ k) = false := fun h => by simpa using h
  have Z1 := Lib.hid zd1
  have Z2 := Lib.hid zd2
  clear zd1 zd2
  have em : max X ((n : Int) * n * L * L) = N := by rcases hcN with ⟨q, e⟩ | ⟨q, e⟩ <;> omega
  have em2 : max 0 ((n : Int) * T - S) = D := by rcases hcD with ⟨q, e⟩ | ⟨q, e⟩ <;> omega
  clear hcN hcD
  rcases hz with ⟨u3, u4⟩ | ⟨u3, u4⟩
  all_goals
    try have z1 := Z1.out u4
    try have z2 := Z2.out u3
    go_enter Try.func14, Try.ntmps14
    go_wp2_with fail
    refine (lbegun_ok _).mono ?_
    rintro e w1 ⟨rfl, hb1⟩
    have z1 := hb1.size
    have c1 := Below.cells hb1
    have f1 := Below.frozens hb1
    try simp only [World.size_alloc, World.size_setCell, World.size_drew] at z1 c1 f1
    go_wp2_with fail
    refine (HWin.out _ (HIn.out.below (by repeat (first | (with_reducible exact Below.refl _ _) | ((with_reducible refine Below.alloc ?_ ?_ _); rotate_left; (next => ((try dsimp only); (try simp only [World.size_alloc, World.size_setCell, World.size_drew]); omega))) | ((with_reducible refine Below.setCell ?_ ?_ _); rotate_left; (next => ((try dsimp only); (try simp only [World.size_alloc, World.size_setCell, World.size_drew]); omega))) | (with_reducible refine Below.drew ?_) | ((with_reducible refine Below.trans ?_ (Below.mono hb1 ?_)); rotate_left; (next => ((try dsimp only); (try simp only [World.size_alloc, World.size_setCell, World.size_drew]); omega))))))).mono ?_
    rintro e w2 ⟨A, c, rfl, hrA, hb2⟩
    have RA := Lib.hid hrA.1
    clear hrA
    have z2 := hb2.size
    have c2 := Below.cells hb2
    have f2 := Below.frozens hb2
    try simp only [World.size_alloc, World.size_setCell, World.size_drew] at z2 c2 f2
    go_wp2_with fail
    refine (within_any p 10000 P _ (by omega) (by omega) HP.out).mono ?_
    rintro e w' ⟨rfl, rfl⟩
    go_wp2_with fail
    refine (within_any q 4194304 T _ (by omega) (by omega) HT.out).mono ?_
    rintro e w' ⟨rfl, rfl⟩
    go_wp2_with fail
    refine (within_any r 60 R _ (by omega) (by omega) HR.out).mono ?_
    rintro e w' ⟨rfl, rfl⟩
    go_wp2_with fail
    refine (HLev.out A c _ (RA.out.below (by repeat (first | (with_reducible exact Below.refl _ _) | ((with_reducible refine Below.alloc ?_ ?_ _); rotate_left; (next => ((try dsimp only); (try simp only [World.size_alloc, World.size_setCell, World.size_drew]); omega))) | ((with_reducible refine Below.setCell ?_ ?_ _); rotate_left; (next => ((try dsimp only); (try simp only [World.size_alloc, World.size_setCell, World.size_drew]); omega))) | (with_reducible refine Below.drew ?_) | (refine Below.trans ?_ (by assumption)))))).mono ?_
    rintro e w3 ⟨rfl, hb3⟩
    have z3 := hb3.size
    have c3 := Below.cells hb3
    have f3 := Below.frozens hb3
    try simp only [World.size_alloc, World.size_setCell, World.size_drew] at z3 c3 f3
    go_wp2_with fail
    refine (HSum.out A c _ (RA.out.below (by repeat (first | (with_reducible exact Below.refl _ _) | ((with_reducible refine Below.alloc ?_ ?_ _); rotate_left; (next => ((try dsimp only); (try simp only [World.size_alloc, World.size_setCell, World.size_drew]); omega))) | ((with_reducible refine Below.setCell ?_ ?_ _); rotate_left; (next => ((try dsimp only); (try simp only [World.size_alloc, World.size_setCell, World.size_drew]); omega))) | (with_reducible refine Below.drew ?_) | ((with_reducible refine Below.trans ?_ (Below.mono hb3 ?_)); rotate_left; (next => ((try dsimp only); (try simp only [World.size_alloc, World.size_setCell, World.size_drew]); omega))))))).mono ?_
    rintro e w4 ⟨rfl, hb4⟩
    have z4 := hb4.size
    have c4 := Below.cells hb4
    have f4 := Below.frozens hb4
    try simp only [World.size_alloc, World.size_setCell, World.size_drew] at z4 c4 f4
    go_wp2_with fail
    refine (HSpr.out _).mono ?_
    rintro e w5 ⟨rfl, hb5⟩
    have z5 := hb5.size
    have c5 := Below.cells hb5
    have f5 := Below.frozens hb5
    try simp only [World.size_alloc, World.size_setCell, World.size_drew] at z5 c5 f5
    go_wp2_with fail
    refine (HNum.out _).mono ?_
    rintro e w6 ⟨rfl, hb6⟩
    have z6 := hb6.size
    have c6 := Below.cells hb6
    have f6 := Below.frozens hb6
    try simp only [World.size_alloc, World.size_setCell, World.size_drew] at z6 c6 f6
    go_wp2_with fail
    refine (HMul.out _).mono ?_
    rintro e w7 ⟨rfl, hb7⟩
    have z7 := hb7.size
    have c7 := Below.cells hb7
    have f7 := Below.frozens hb7
    try simp only [World.size_alloc, World.size_setCell, World.size_drew] at z7 c7 f7
    go_wp2_with fail
    refine (HAdd.out _).mono ?_
    rintro e w8 ⟨rfl, hb8⟩
    have z8 := hb8.size
    have c8 := Below.cells hb8
    have f8 := Below.frozens hb8
    try simp only [World.size_alloc, World.size_setCell, World.size_drew] at z8 c8 f8
    go_wp2_with fail
    refine (HNum.out _).mono ?_
    rintro e w9 ⟨rfl, hb9⟩
    have z9 := hb9.size
    have c9 := Below.cells hb9
    have f9 := Below.frozens hb9
    try simp only [World.size_alloc, World.size_setCell, World.size_drew] at z9 c9 f9
    go_wp2_with fail
    refine (HShl.out _).mono ?_
    rintro e w10 ⟨rfl, hb10⟩
    have z10 := hb10.size
    have c10 := Below.cells hb10
    have f10 := Below.frozens hb10
    try simp only [World.size_alloc, World.size_setCell, World.size_drew] at z10 c10 f10
    go_wp2_with fail
    refine (HCmp.out _).mono ?_
    rintro e w11 ⟨rfl, hb11⟩
    have z11 := hb11.size
    have c11 := Below.cells hb11
    have f11 := Below.frozens hb11
    try simp only [World.size_alloc, World.size_setCell, World.size_drew] at z11 c11 f11
    go_wp2_with fail
    go_ret
    exact ⟨rfl, (by repeat (first | (with_reducible exact Below.refl _ _) | ((with_reducible refine Below.alloc ?_ ?_ _); rotate_left; (next => ((try dsimp only); (try simp only [World.size_alloc, World.size_setCell, World.size_drew]); omega))) | ((with_reducible refine Below.setCell ?_ ?_ _); rotate_left; (next => ((try dsimp only); (try simp only [World.size_alloc, World.size_setCell, World.size_drew]); omega))) | (with_reducible refine Below.drew ?_) | ((with_reducible refine Below.trans ?_ (Below.mono hb11 ?_)); rotate_left; (next => ((try dsimp only); (try simp only [World.size_alloc, World.size_setCell, World.size_drew]); omega))) | ((with_reducible refine Below.trans ?_ (Below.mono hb10 ?_)); rotate_left; (next => ((try dsimp only); (try simp only [World.size_alloc, World.size_setCell, World.size_drew]); omega))) | ((with_reducible refine Below.trans ?_ (Below.mono hb9 ?_)); rotate_left; (next => ((try dsimp only); (try simp only [World.size_alloc, World.size_setCell, World.size_drew]); omega))) | ((with_reducible refine Below.trans ?_ (Below.mono hb8 ?_)); rotate_left; (next => ((try dsimp only); (try simp only [World.size_alloc, World.size_setCell, World.size_drew]); omega))) | ((with_reducible refine Below.trans ?_ (Below.mono hb7 ?_)); rotate_left; (next => ((try dsimp only); (try simp only [World.size_alloc, World.size_setCell, World.size_drew]); omega))) | ((with_reducible refine Below.trans ?_ (Below.mono hb6 ?_)); rotate_left; (next => ((try dsimp only); (try simp only [World.size_alloc, World.size_setCell, World.size_drew]); omega))) | ((with_reducible refine Below.trans ?_ (Below.mono hb5 ?_)); rotate_left; (next => ((try dsimp only); (try simp only [World.size_alloc, World.size_setCell, World.size_drew]); omega))) | ((with_reducible refine Below.trans ?_ (Below.mono hb4 ?_)); rotate_left; (next => ((try dsimp only); (try simp only [World.size_alloc, World.size_setCell, World.size_drew]); omega))) | ((with_reducible refine Below.trans ?_ (Below.mono hb3 ?_)); rotate_left; (next => ((try dsimp only); (try simp only [World.size_alloc, World.size_setCell, World.size_drew]); omega))) | ((with_reducible refine Below.trans ?_ (Below.mono hb2 ?_)); rotate_left; (next => ((try dsimp only); (try simp only [World.size_alloc, World.size_setCell, World.size_drew]); omega))) | ((with_reducible refine Below.trans ?_ (Below.mono hb1 ?_)); rotate_left; (next => ((try dsimp only); (try simp only [World.size_alloc, World.size_setCell, World.size_drew]); omega)))))⟩
end Go.Proofs.Ytbmnekehgjcfkaa

import Derived.Test.YtlnagfmaiabhaaaSu
import Derived.Test.YtlnagfmaiabhaaaVal
import Derived.Test.YtlnagfmaiabhaaaCl
import Derived.Test.YtlnagfmaiabhaaaAr
import Derived.Test.YtlnagfmaiabhaaaFl
set_option linter.unusedSimpArgs false
set_option linter.unusedVariables false
namespace Go.Proofs.Ytlnagfmaiabhaaa
open Go.RowKit
theorem own_down {w : World} {B B' e s n : Nat} {v : Value} {xs : List Value} (h : w.ownsRow B e s v n xs) (hb : B' ≤ B) : w.ownsRow B' e s v n xs :=
  ⟨h.1, h.2.imp id fun ⟨g, cap, cur, h1, h2, h3⟩ => ⟨g, cap, cur, h1, Nat.le_trans hb h2, h3⟩⟩

set_option maxRecDepth 100000 in
set_option maxHeartbeats 16000000 in
theorem statJoins_walk (a : Option Addr) (len cap : Nat) (l : List Int) (a' : Option Addr) (len' cap' : Nat) (l' : List Int) (p : Int) (w : World) (hin : InRow w a len cap l) (hin' : InRow w a' len' cap' l') (_ : (Lit.int .i64 p).wf = true) :
    Calls Try.prog 8 #[.slice a len cap, .slice a' len' cap', .int .i64 p] w fun e w' =>
      e = .returned (.bool true) ∧ Below w.heap.size w w' := by
  obtain ⟨ys, n, S, Q, X, hy, hn, hm, hb, hS, hQ, hX, hsp, ok⟩ := stat_pack l
  obtain ⟨zs, m, hy', hn', hm', hb'⟩ := vals_facts l'
  have hlv : ∀ w', InRow w' a len cap l → _ := fun w' h => values_at a len cap l w' h ys n hy hn
  have hlv' : ∀ w', InRow w' a' len' cap' l' → _ := fun w' h => values_at a' len' cap' l' w' h zs m hy' hn'
  have b1 := within_bd p (n := 16777217) (by omega)
  obtain ⟨P, e_P⟩ : ∃ z_, within p 16777217 = z_ := ⟨_, rfl⟩
  rw [e_P] at b1
  have HP := Lib.hid e_P
  clear e_P
  obtain ⟨k, hmin⟩ : ∃ k : Nat, min (m : Int) (64 - (n : Int)) = (k : Int) := ⟨min m (64 - n), by omega⟩
  have hk1 : k ≤ m := by omega
  have hk2 : n + k ≤ 64 := by omega
  obtain ⟨us, hus⟩ : ∃ us, zs.take k = us := ⟨_, rfl⟩
  have hul : us.length = k := by rw [← hus, List.length_take]; omega
  have hub : Btw 0 16777216 us := by rw [← hus]; exact hb'.take k
  obtain ⟨S2, hS2⟩ : ∃ s, sumI us = s := ⟨_, rfl⟩
  obtain ⟨Q2, hQ2⟩ : ∃ s, sqI us = s := ⟨_, rfl⟩
  have ok2 := sumsOK_of hub (by omega)
  rw [hul, hS2, hQ2] at ok2
  have hab : Btw 0 16777216 (ys ++ us) := hb.append hub
  have e1 : sumI (ys ++ us) = S + S2 := by rw [sumI_append, hS, hS2]
  have e2 : sqI (ys ++ us) = Q + Q2 := by rw [sqI_append, hQ, hQ2]
  have hsum : ∀ A c w', Row w' A n ys → _ := fun A c w' h => sums_ok A n c ys S Q w' h hm hb hS hQ
  have hsum2 : ∀ A c w', Row w' A k us → _ := fun A c w' h => sums_ok A k c us S2 Q2 w' h (by omega) hub hS2 hQ2
  have hjoin : ∀ w', _ := fun w' => sjoin_ok n S Q k S2 Q2 (n + k) (S + S2) (Q + Q2) ok ok2 (by omega) rfl rfl rfl w'
  have hof : ∀ A c w', Row w' A (n + k) (ys ++ us) → Calls Try.prog 22 #[.slice A (n + k) c] w' fun e w'' => e = .returned (.tuple #[.agg #[.int .i64 ((n : Int) + k), .int .i64 (S + S2), .int .i64 (Q + Q2)], .int .i64 0]) ∧ Below w'.heap.size w' w'' := fun A c w' h => sof_ok A (n + k) c (ys ++ us) (S + S2) (Q + Q2) w' h hk2 hab e1 e2
  have hcat : ∀ (A A' : Option Addr) (c c' : Nat) (w' : World) (B : Nat), InRow w' A n c ys → InRow w' A' k c' us → w'.cell? ⟨B, 0, none⟩ = some (.slice A n c) → w'.cell? ⟨B, 1, none⟩ = some (.slice A' k c') → _ := fun A A' c c' w' B h h' e1 e2 =>
      concat_ok B _ _ _ _ _ _ ys us w' e1 e2 (World.block_lt_of_cell? w' _ e1) h h' (by omega) (by omega)
  have HLv := Lib.hid hlv
  have HLv' := Lib.hid hlv'
  have HIn := Lib.hid hin
  have HIn' := Lib.hid hin'
  have HSum := Lib.hid hsum
  have HSum2 := Lib.hid hsum2
  have HJoin := Lib.hid hjoin
  have HOf := Lib.hid hof
  have HCat := Lib.hid hcat
  have HUs := Lib.hid hus
  have qa := alloc_cells
  have qf := alloc_frozens
  have HB0 := Lib.hid (fun w => begun_ok w)
  have kn : (k : Int) + n ≤ 64 := by omega
  have km : (k : Int) ≤ m := by omega
  have k0 : (0 : Int) ≤ k := by omega
  by_cases h64 : n = 64
  · have h64' : ((n : Int) == 64) = true := by simp; omega
    clear hlv hlv' hin hin' hsum hsum2 hjoin hof hcat hus hul hub hS2 hQ2 ok2 hab e1 e2 hy hn hb hS hQ hX hsp ok hy' hn' hb'
    clear h64
    go_enter Try.func8, Try.ntmps8
    go_wp2_with fail
    refine (HB0.out _).mono ?_
    rintro e w1 ⟨rfl, hb1⟩
    have z1 := hb1.size
    have c1 := Below.cells hb1
    have f1 := Below.frozens hb1
    try simp only [World.size_alloc, World.size_setCell, World.size_drew] at z1 c1 f1
    go_wp2_with fail
    refine (HLv.out _ (HIn.out.below (by repeat (first | (with_reducible exact Below.refl _ _) | ((with_reducible refine Below.alloc ?_ ?_ _); rotate_left; (next => ((try dsimp only); (try simp only [World.size_alloc, World.size_setCell, World.size_drew]); omega))) | ((with_reducible refine Below.setCell ?_ ?_ _); rotate_left; (next => ((try dsimp only); (try simp only [World.size_alloc, World.size_setCell, World.size_drew]); omega))) | (with_reducible refine Below.drew ?_) | ((with_reducible refine Below.trans ?_ (Below.mono hb1 ?_)); rotate_left; (next => ((try dsimp only); (try simp only [World.size_alloc, World.size_setCell, World.size_drew]); omega))))))).mono ?_
    rintro e w2 ⟨A2, cap2, rfl, hrA2, hb2⟩
    have RA2 := Lib.hid hrA2.1
    have EA2 := Lib.hid hrA2.1.each
    have IA2 := Lib.hid hrA2
    have capA2 := hrA2.2.1
    clear hrA2
    have z2 := hb2.size
    have c2 := Below.cells hb2
    have f2 := Below.frozens hb2
    try simp only [World.size_alloc, World.size_setCell, World.size_drew] at z2 c2 f2
    go_wp2_with fail
    refine (HLv'.out _ (HIn'.out.below (by repeat (first | (with_reducible exact Below.refl _ _) | ((with_reducible refine Below.alloc ?_ ?_ _); rotate_left; (next => ((try dsimp only); (try simp only [World.size_alloc, World.size_setCell, World.size_drew]); omega))) | ((with_reducible refine Below.setCell ?_ ?_ _); rotate_left; (next => ((try dsimp only); (try simp only [World.size_alloc, World.size_setCell, World.size_drew]); omega))) | (with_reducible refine Below.drew ?_) | ((with_reducible refine Below.trans ?_ (Below.mono hb1 ?_)); rotate_left; (next => ((try dsimp only); (try simp only [World.size_alloc, World.size_setCell, World.size_drew]); omega))) | ((with_reducible refine Below.trans ?_ (Below.mono hb2 ?_)); rotate_left; (next => ((try dsimp only); (try simp only [World.size_alloc, World.size_setCell, World.size_drew]); omega))))))).mono ?_
    rintro e w3 ⟨A3, cap3, rfl, hrA3, hb3⟩
    have RA3 := Lib.hid hrA3.1
    have EA3 := Lib.hid hrA3.1.each
    have IA3 := Lib.hid hrA3
    have capA3 := hrA3.2.1
    clear hrA3
    have z3 := hb3.size
    have c3 := Below.cells hb3
    have f3 := Below.frozens hb3
    try simp only [World.size_alloc, World.size_setCell, World.size_drew] at z3 c3 f3
    go_wp2_with fail
    have kc : (k : Int) ≤ cap3 := by omega
    have R2 := Lib.hid (RA2.out.below hb3)
    have I2 := Lib.hid (IA2.out.below hb3)
    have J3 := Lib.hid (show InRow w3 A3 k cap3 us from ⟨HUs.out ▸ RA3.out.take hk1, by have := IA3.out.2.1; omega, IA3.out.2.2.1, fun h => ⟨by have := IA3.out.2.2.2 h; omega, (IA3.out.2.2.2 h).2⟩⟩)
    clear RA2 IA2 EA2 EA3 RA3 IA3
    refine (within_any p 16777217 P _ (by omega) (by omega) HP.out).mono ?_
    rintro e w' ⟨rfl, rfl⟩
    go_wp2_with fail
    refine (HSum.out _ _ _ R2.out).mono ?_
    rintro e w4 ⟨rfl, hb4⟩
    have z4 := hb4.size
    have c4 := Below.cells hb4
    have f4 := Below.frozens hb4
    try simp only [World.size_alloc, World.size_setCell, World.size_drew] at z4 c4 f4
    go_wp2_with fail
    refine (HSum2.out _ _ _ (J3.out.1.below hb4)).mono ?_
    rintro e w5 ⟨rfl, hb5⟩
    have z5 := hb5.size
    have c5 := Below.cells hb5
    have f5 := Below.frozens hb5
    try simp only [World.size_alloc, World.size_setCell, World.size_drew] at z5 c5 f5
    go_wp2_with fail
    refine (HJoin.out _).mono ?_
    rintro e w6 ⟨rfl, hb6⟩
    have z6 := hb6.size
    have c6 := Below.cells hb6
    have f6 := Below.frozens hb6
    try simp only [World.size_alloc, World.size_setCell, World.size_drew] at z6 c6 f6
    go_wp2_with fail
    refine (HCat.out A2 A3 cap2 cap3 _ (w6.heap.size + 1) (I2.out.below (by repeat (first | (with_reducible exact Below.refl _ _) | ((with_reducible refine Below.alloc ?_ ?_ _); rotate_left; (next => ((try dsimp only); (try simp only [World.size_alloc, World.size_setCell, World.size_drew]); omega))) | ((with_reducible refine Below.setCell ?_ ?_ _); rotate_left; (next => ((try dsimp only); (try simp only [World.size_alloc, World.size_setCell, World.size_drew]); omega))) | (with_reducible refine Below.drew ?_) | ((with_reducible refine Below.trans ?_ (Below.mono hb6 ?_)); rotate_left; (next => ((try dsimp only); (try simp only [World.size_alloc, World.size_setCell, World.size_drew]); omega))) | ((with_reducible refine Below.trans ?_ (Below.mono hb5 ?_)); rotate_left; (next => ((try dsimp only); (try simp only [World.size_alloc, World.size_setCell, World.size_drew]); omega))) | ((with_reducible refine Below.trans ?_ (Below.mono hb4 ?_)); rotate_left; (next => ((try dsimp only); (try simp only [World.size_alloc, World.size_setCell, World.size_drew]); omega)))))) (J3.out.below (by repeat (first | (with_reducible exact Below.refl _ _) | ((with_reducible refine Below.alloc ?_ ?_ _); rotate_left; (next => ((try dsimp only); (try simp only [World.size_alloc, World.size_setCell, World.size_drew]); omega))) | ((with_reducible refine Below.setCell ?_ ?_ _); rotate_left; (next => ((try dsimp only); (try simp only [World.size_alloc, World.size_setCell, World.size_drew]); omega))) | (with_reducible refine Below.drew ?_) | ((with_reducible refine Below.trans ?_ (Below.mono hb6 ?_)); rotate_left; (next => ((try dsimp only); (try simp only [World.size_alloc, World.size_setCell, World.size_drew]); omega))) | ((with_reducible refine Below.trans ?_ (Below.mono hb5 ?_)); rotate_left; (next => ((try dsimp only); (try simp only [World.size_alloc, World.size_setCell, World.size_drew]); omega))) | ((with_reducible refine Below.trans ?_ (Below.mono hb4 ?_)); rotate_left; (next => ((try dsimp only); (try simp only [World.size_alloc, World.size_setCell, World.size_drew]); omega)))))) (by simp [go_sem]) (by simp [go_sem])).mono ?_
    rintro e w7 ⟨A7, k7, rfl, I7, _, hb7⟩
    have z7 := hb7.size
    have c7 := Below.cells hb7
    have f7 := Below.frozens hb7
    try simp only [World.size_alloc, World.size_setCell, World.size_drew] at z7 c7 f7
    have R7 := Lib.hid I7.1
    clear I7
    go_wp2_with fail
    refine (HOf.out _ _ _ R7.out).mono ?_
    rintro e w8 ⟨rfl, hb8⟩
    have z8 := hb8.size
    have c8 := Below.cells hb8
    have f8 := Below.frozens hb8
    try simp only [World.size_alloc, World.size_setCell, World.size_drew] at z8 c8 f8
    go_wp2_with fail
    go_ret
    exact ⟨rfl, (by repeat (first | (with_reducible exact Below.refl _ _) | ((with_reducible refine Below.alloc ?_ ?_ _); rotate_left; (next => ((try dsimp only); (try simp only [World.size_alloc, World.size_setCell, World.size_drew]); omega))) | ((with_reducible refine Below.setCell ?_ ?_ _); rotate_left; (next => ((try dsimp only); (try simp only [World.size_alloc, World.size_setCell, World.size_drew]); omega))) | (with_reducible refine Below.drew ?_) | ((with_reducible refine Below.trans ?_ (Below.mono hb8 ?_)); rotate_left; (next => ((try dsimp only); (try simp only [World.size_alloc, World.size_setCell, World.size_drew]); omega))) | ((with_reducible refine Below.trans ?_ (Below.mono hb7 ?_)); rotate_left; (next => ((try dsimp only); (try simp only [World.size_alloc, World.size_setCell, World.size_drew]); omega))) | ((with_reducible refine Below.trans ?_ (Below.mono hb6 ?_)); rotate_left; (next => ((try dsimp only); (try simp only [World.size_alloc, World.size_setCell, World.size_drew]); omega))) | ((with_reducible refine Below.trans ?_ (Below.mono hb5 ?_)); rotate_left; (next => ((try dsimp only); (try simp only [World.size_alloc, World.size_setCell, World.size_drew]); omega))) | ((with_reducible refine Below.trans ?_ (Below.mono hb4 ?_)); rotate_left; (next => ((try dsimp only); (try simp only [World.size_alloc, World.size_setCell, World.size_drew]); omega))) | ((with_reducible refine Below.trans ?_ (Below.mono hb3 ?_)); rotate_left; (next => ((try dsimp only); (try simp only [World.size_alloc, World.size_setCell, World.size_drew]); omega))) | ((with_reducible refine Below.trans ?_ (Below.mono hb2 ?_)); rotate_left; (next => ((try dsimp only); (try simp only [World.size_alloc, World.size_setCell, World.size_drew]); omega))) | ((with_reducible refine Below.trans ?_ (Below.mono hb1 ?_)); rotate_left; (next => ((try dsimp only); (try simp only [World.size_alloc, World.size_setCell, World.size_drew]); omega)))))⟩
  · have h64' : ((n : Int) == 64) = false := by simp; omega
    have ok3 := sumsOK_snoc hb (by omega) (x := P) (by omega)
    rw [hn, hS, hQ] at ok3
    have hb2 := hb.append (Btw.one (x := P) b1.1 (by omega))
    have e3 : sumI (ys ++ [P]) = S + P := by rw [sumI_append, hS]; simp [sumI]
    have e4 : sqI (ys ++ [P]) = Q + P * P := by rw [sqI_append, hQ]; simp [sqI]
    obtain ⟨V, hV⟩ : ∃ V, Q + P * P = V := ⟨_, rfl⟩
    rw [hV] at e4 ok3
    have hadd : ∀ w', _ := fun w' => sadd_ok n S Q P (n + 1) (S + P) V ok (by omega) (by omega) rfl rfl hV w'
    have hless : ∀ w', _ := fun w' => sless_ok (n + 1) (S + P) V P n S Q ok3 (by omega) (by omega) (by omega) (by omega) ok w'
    have hof2 : ∀ A c w', Row w' A (n + 1) (ys ++ [P]) → Calls Try.prog 22 #[.slice A (n + 1) c] w' fun e w'' => e = .returned (.tuple #[.agg #[.int .i64 ((n : Int) + 1), .int .i64 (S + P), .int .i64 V], .int .i64 0]) ∧ Below w'.heap.size w' w'' := fun A c w' h => sof_ok A (n + 1) c (ys ++ [P]) (S + P) V w' h (by omega) hb2 e3 e4
    have hcl : ∀ A c w', Row w' A n ys → _ := fun A c w' h => clone_own A n c ys w' h (by omega)
    have HAdd := Lib.hid hadd
    have HLess := Lib.hid hless
    have HOf2 := Lib.hid hof2
    have HCl := Lib.hid hcl
    obtain ⟨i0, hi, hz0, hz1, hz2⟩ := info_parts info_int
    clear hlv hlv' hin hin' hsum hsum2 hjoin hof hcat hus hul hub hS2 hQ2 ok2 hab e1 e2 hy hn hb hS hQ hX hsp ok hy' hn' hb' ok3 hb2 e3 e4 hV hadd hless hof2 hcl
    go_enter Try.func8, Try.ntmps8
    go_wp2_with fail
    refine (HB0.out _).mono ?_
    rintro e w1 ⟨rfl, hb1⟩
    have z1 := hb1.size
    have c1 := Below.cells hb1
    have f1 := Below.frozens hb1
    try simp only [World.size_alloc, World.size_setCell, World.size_drew] at z1 c1 f1
    go_wp2_with fail
    refine (HLv.out _ (HIn.out.below (by repeat (first | (with_reducible exact Below.refl _ _) | ((with_reducible refine Below.alloc ?_ ?_ _); rotate_left; (next => ((try dsimp only); (try simp only [World.size_alloc, World.size_setCell, World.size_drew]); omega))) | ((with_reducible refine Below.setCell ?_ ?_ _); rotate_left; (next => ((try dsimp only); (try simp only [World.size_alloc, World.size_setCell, World.size_drew]); omega))) | (with_reducible refine Below.drew ?_) | ((with_reducible refine Below.trans ?_ (Below.mono hb1 ?_)); rotate_left; (next => ((try dsimp only); (try simp only [World.size_alloc, World.size_setCell, World.size_drew]); omega))))))).mono ?_
    rintro e w2 ⟨A2, cap2, rfl, hrA2, hb2⟩
    have RA2 := Lib.hid hrA2.1
    have EA2 := Lib.hid hrA2.1.each
    have IA2 := Lib.hid hrA2
    have capA2 := hrA2.2.1
    clear hrA2
    have z2 := hb2.size
    have c2 := Below.cells hb2
    have f2 := Below.frozens hb2
    try simp only [World.size_alloc, World.size_setCell, World.size_drew] at z2 c2 f2
    go_wp2_with fail
    refine (HLv'.out _ (HIn'.out.below (by repeat (first | (with_reducible exact Below.refl _ _) | ((with_reducible refine Below.alloc ?_ ?_ _); rotate_left; (next => ((try dsimp only); (try simp only [World.size_alloc, World.size_setCell, World.size_drew]); omega))) | ((with_reducible refine Below.setCell ?_ ?_ _); rotate_left; (next => ((try dsimp only); (try simp only [World.size_alloc, World.size_setCell, World.size_drew]); omega))) | (with_reducible refine Below.drew ?_) | ((with_reducible refine Below.trans ?_ (Below.mono hb1 ?_)); rotate_left; (next => ((try dsimp only); (try simp only [World.size_alloc, World.size_setCell, World.size_drew]); omega))) | ((with_reducible refine Below.trans ?_ (Below.mono hb2 ?_)); rotate_left; (next => ((try dsimp only); (try simp only [World.size_alloc, World.size_setCell, World.size_drew]); omega))))))).mono ?_
    rintro e w3 ⟨A3, cap3, rfl, hrA3, hb3⟩
    have RA3 := Lib.hid hrA3.1
    have EA3 := Lib.hid hrA3.1.each
    have IA3 := Lib.hid hrA3
    have capA3 := hrA3.2.1
    clear hrA3
    have z3 := hb3.size
    have c3 := Below.cells hb3
    have f3 := Below.frozens hb3
    try simp only [World.size_alloc, World.size_setCell, World.size_drew] at z3 c3 f3
    go_wp2_with fail
    have kc : (k : Int) ≤ cap3 := by omega
    have R2 := Lib.hid (RA2.out.below hb3)
    have I2 := Lib.hid (IA2.out.below hb3)
    have J3 := Lib.hid (show InRow w3 A3 k cap3 us from ⟨HUs.out ▸ RA3.out.take hk1, by have := IA3.out.2.1; omega, IA3.out.2.2.1, fun h => ⟨by have := IA3.out.2.2.2 h; omega, (IA3.out.2.2.2 h).2⟩⟩)
    clear RA2 IA2 EA2 EA3 RA3 IA3
    refine (within_any p 16777217 P _ (by omega) (by omega) HP.out).mono ?_
    rintro e w' ⟨rfl, rfl⟩
    go_wp2_with fail
    refine (HSum.out _ _ _ R2.out).mono ?_
    rintro e w4 ⟨rfl, hb4⟩
    have z4 := hb4.size
    have c4 := Below.cells hb4
    have f4 := Below.frozens hb4
    try simp only [World.size_alloc, World.size_setCell, World.size_drew] at z4 c4 f4
    go_wp2_with fail
    refine (HSum2.out _ _ _ (J3.out.1.below hb4)).mono ?_
    rintro e w5 ⟨rfl, hb5⟩
    have z5 := hb5.size
    have c5 := Below.cells hb5
    have f5 := Below.frozens hb5
    try simp only [World.size_alloc, World.size_setCell, World.size_drew] at z5 c5 f5
    go_wp2_with fail
    refine (HJoin.out _).mono ?_
    rintro e w6 ⟨rfl, hb6⟩
    have z6 := hb6.size
    have c6 := Below.cells hb6
    have f6 := Below.frozens hb6
    try simp only [World.size_alloc, World.size_setCell, World.size_drew] at z6 c6 f6
    go_wp2_with fail
    refine (HCat.out A2 A3 cap2 cap3 _ (w6.heap.size + 1) (I2.out.below (by repeat (first | (with_reducible exact Below.refl _ _) | ((with_reducible refine Below.alloc ?_ ?_ _); rotate_left; (next => ((try dsimp only); (try simp only [World.size_alloc, World.size_setCell, World.size_drew]); omega))) | ((with_reducible refine Below.setCell ?_ ?_ _); rotate_left; (next => ((try dsimp only); (try simp only [World.size_alloc, World.size_setCell, World.size_drew]); omega))) | (with_reducible refine Below.drew ?_) | ((with_reducible refine Below.trans ?_ (Below.mono hb6 ?_)); rotate_left; (next => ((try dsimp only); (try simp only [World.size_alloc, World.size_setCell, World.size_drew]); omega))) | ((with_reducible refine Below.trans ?_ (Below.mono hb5 ?_)); rotate_left; (next => ((try dsimp only); (try simp only [World.size_alloc, World.size_setCell, World.size_drew]); omega))) | ((with_reducible refine Below.trans ?_ (Below.mono hb4 ?_)); rotate_left; (next => ((try dsimp only); (try simp only [World.size_alloc, World.size_setCell, World.size_drew]); omega)))))) (J3.out.below (by repeat (first | (with_reducible exact Below.refl _ _) | ((with_reducible refine Below.alloc ?_ ?_ _); rotate_left; (next => ((try dsimp only); (try simp only [World.size_alloc, World.size_setCell, World.size_drew]); omega))) | ((with_reducible refine Below.setCell ?_ ?_ _); rotate_left; (next => ((try dsimp only); (try simp only [World.size_alloc, World.size_setCell, World.size_drew]); omega))) | (with_reducible refine Below.drew ?_) | ((with_reducible refine Below.trans ?_ (Below.mono hb6 ?_)); rotate_left; (next => ((try dsimp only); (try simp only [World.size_alloc, World.size_setCell, World.size_drew]); omega))) | ((with_reducible refine Below.trans ?_ (Below.mono hb5 ?_)); rotate_left; (next => ((try dsimp only); (try simp only [World.size_alloc, World.size_setCell, World.size_drew]); omega))) | ((with_reducible refine Below.trans ?_ (Below.mono hb4 ?_)); rotate_left; (next => ((try dsimp only); (try simp only [World.size_alloc, World.size_setCell, World.size_drew]); omega)))))) (by simp [go_sem]) (by simp [go_sem])).mono ?_
    rintro e w7 ⟨A7, k7, rfl, I7, _, hb7⟩
    have z7 := hb7.size
    have c7 := Below.cells hb7
    have f7 := Below.frozens hb7
    try simp only [World.size_alloc, World.size_setCell, World.size_drew] at z7 c7 f7
    have R7 := Lib.hid I7.1
    clear I7
    go_wp2_with fail
    refine (HOf.out _ _ _ R7.out).mono ?_
    rintro e w8 ⟨rfl, hb8⟩
    have z8 := hb8.size
    have c8 := Below.cells hb8
    have f8 := Below.frozens hb8
    try simp only [World.size_alloc, World.size_setCell, World.size_drew] at z8 c8 f8
    go_wp2_with fail
    refine (HSum.out _ _ _ (R2.out.below (by repeat (first | (with_reducible exact Below.refl _ _) | ((with_reducible refine Below.alloc ?_ ?_ _); rotate_left; (next => ((try dsimp only); (try simp only [World.size_alloc, World.size_setCell, World.size_drew]); omega))) | ((with_reducible refine Below.setCell ?_ ?_ _); rotate_left; (next => ((try dsimp only); (try simp only [World.size_alloc, World.size_setCell, World.size_drew]); omega))) | (with_reducible refine Below.drew ?_) | ((with_reducible refine Below.trans ?_ (Below.mono hb8 ?_)); rotate_left; (next => ((try dsimp only); (try simp only [World.size_alloc, World.size_setCell, World.size_drew]); omega))) | ((with_reducible refine Below.trans ?_ (Below.mono hb7 ?_)); rotate_left; (next => ((try dsimp only); (try simp only [World.size_alloc, World.size_setCell, World.size_drew]); omega))) | ((with_reducible refine Below.trans ?_ (Below.mono hb6 ?_)); rotate_left; (next => ((try dsimp only); (try simp only [World.size_alloc, World.size_setCell, World.size_drew]); omega))) | ((with_reducible refine Below.trans ?_ (Below.mono hb5 ?_)); rotate_left; (next => ((try dsimp only); (try simp only [World.size_alloc, World.size_setCell, World.size_drew]); omega))) | ((with_reducible refine Below.trans ?_ (Below.mono hb4 ?_)); rotate_left; (next => ((try dsimp only); (try simp only [World.size_alloc, World.size_setCell, World.size_drew]); omega))))))).mono ?_
    rintro e w9 ⟨rfl, hb9⟩
    have z9 := hb9.size
    have c9 := Below.cells hb9
    have f9 := Below.frozens hb9
    try simp only [World.size_alloc, World.size_setCell, World.size_drew] at z9 c9 f9
    go_wp2_with fail
    refine (HAdd.out _).mono ?_
    rintro e w10 ⟨rfl, hb10⟩
    have z10 := hb10.size
    have c10 := Below.cells hb10
    have f10 := Below.frozens hb10
    try simp only [World.size_alloc, World.size_setCell, World.size_drew] at z10 c10 f10
    go_wp2_with fail
    refine (HLess.out _).mono ?_
    rintro e w11 ⟨rfl, hb11⟩
    have z11 := hb11.size
    have c11 := Below.cells hb11
    have f11 := Below.frozens hb11
    try simp only [World.size_alloc, World.size_setCell, World.size_drew] at z11 c11 f11
    go_wp2_with fail
    refine (HCl.out A2 cap2 _ (R2.out.below (by repeat (first | (with_reducible exact Below.refl _ _) | ((with_reducible refine Below.alloc ?_ ?_ _); rotate_left; (next => ((try dsimp only); (try simp only [World.size_alloc, World.size_setCell, World.size_drew]); omega))) | ((with_reducible refine Below.setCell ?_ ?_ _); rotate_left; (next => ((try dsimp only); (try simp only [World.size_alloc, World.size_setCell, World.size_drew]); omega))) | (with_reducible refine Below.drew ?_) | ((with_reducible refine Below.trans ?_ (Below.mono hb11 ?_)); rotate_left; (next => ((try dsimp only); (try simp only [World.size_alloc, World.size_setCell, World.size_drew]); omega))) | ((with_reducible refine Below.trans ?_ (Below.mono hb10 ?_)); rotate_left; (next => ((try dsimp only); (try simp only [World.size_alloc, World.size_setCell, World.size_drew]); omega))) | ((with_reducible refine Below.trans ?_ (Below.mono hb9 ?_)); rotate_left; (next => ((try dsimp only); (try simp only [World.size_alloc, World.size_setCell, World.size_drew]); omega))) | ((with_reducible refine Below.trans ?_ (Below.mono hb8 ?_)); rotate_left; (next => ((try dsimp only); (try simp only [World.size_alloc, World.size_setCell, World.size_drew]); omega))) | ((with_reducible refine Below.trans ?_ (Below.mono hb7 ?_)); rotate_left; (next => ((try dsimp only); (try simp only [World.size_alloc, World.size_setCell, World.size_drew]); omega))) | ((with_reducible refine Below.trans ?_ (Below.mono hb6 ?_)); rotate_left; (next => ((try dsimp only); (try simp only [World.size_alloc, World.size_setCell, World.size_drew]); omega))) | ((with_reducible refine Below.trans ?_ (Below.mono hb5 ?_)); rotate_left; (next => ((try dsimp only); (try simp only [World.size_alloc, World.size_setCell, World.size_drew]); omega))) | ((with_reducible refine Below.trans ?_ (Below.mono hb4 ?_)); rotate_left; (next => ((try dsimp only); (try simp only [World.size_alloc, World.size_setCell, World.size_drew]); omega))))))).mono ?_
    rintro e w12 ⟨v12, rfl, own12, hb12⟩
    have z12 := hb12.size
    have c12 := Below.cells hb12
    have f12 := Below.frozens hb12
    try simp only [World.size_alloc, World.size_setCell, World.size_drew] at z12 c12 f12
    have ownC := own_down own12 (B' := w11.heap.size + 1) (by simp)
    have hbC := hb12.mono (show w11.heap.size + 1 ≤ _ by simp)
    go_wp2_with (at_builtin; (refine wpList_append_own _ rfl _ _ 32 rfl ((w11.heap.size+1)) 3 i0 (.int .i64 0) 1 8 Try.underlying32 hi hz0 hz1 hz2 rfl (by decide) _ _ _ rfl (World.ownsRow.alloc ownC _) ⟨w12.heap.size, 0, none⟩ 1 1 [.int .i64 (P)] rfl rfl (app1_cells _ _ _) (app1_one _ _) (by unfold maxLen; omega) (by omega) (by simp; omega) ?_))
    intro v13 w13 own13 gr13 _
    have r13 := own_snoc own13
    have hb13 := (hbC.alloc z12 _).grown gr13 (by simp; omega) (fun g hg => (ownC.lt g hg).1)
    have z13 := hb13.size
    have c13 := Below.cells hb13
    have f13 := Below.frozens hb13
    try simp only [World.size_alloc, World.size_setCell, World.size_drew] at z13 c13 f13
    obtain ⟨A13, k13, rfl, q1, q2, q3⟩ := own_form r13
    have R13 := Lib.hid (Row.of_own r13)
    clear own13 gr13 r13 ownC own12 hbC hb12 c12 f12
    go_wp2_with fail
    refine (HOf2.out A13 k13 _ R13.out).mono ?_
    rintro e w14 ⟨rfl, hb14⟩
    have z14 := hb14.size
    have c14 := Below.cells hb14
    have f14 := Below.frozens hb14
    try simp only [World.size_alloc, World.size_setCell, World.size_drew] at z14 c14 f14
    go_wp2_with fail
    have R14 := Lib.hid (R2.out.below (w' := w14) (by repeat (first | (with_reducible exact Below.refl _ _) | ((with_reducible refine Below.alloc ?_ ?_ _); rotate_left; (next => ((try dsimp only); (try simp only [World.size_alloc, World.size_setCell, World.size_drew]); omega))) | ((with_reducible refine Below.setCell ?_ ?_ _); rotate_left; (next => ((try dsimp only); (try simp only [World.size_alloc, World.size_setCell, World.size_drew]); omega))) | (with_reducible refine Below.drew ?_) | ((with_reducible refine Below.trans ?_ (Below.mono hb14 ?_)); rotate_left; (next => ((try dsimp only); (try simp only [World.size_alloc, World.size_setCell, World.size_drew]); omega))) | ((with_reducible refine Below.trans ?_ (Below.mono hb13 ?_)); rotate_left; (next => ((try dsimp only); (try simp only [World.size_alloc, World.size_setCell, World.size_drew]); omega))) | ((with_reducible refine Below.trans ?_ (Below.mono hb11 ?_)); rotate_left; (next => ((try dsimp only); (try simp only [World.size_alloc, World.size_setCell, World.size_drew]); omega))) | ((with_reducible refine Below.trans ?_ (Below.mono hb10 ?_)); rotate_left; (next => ((try dsimp only); (try simp only [World.size_alloc, World.size_setCell, World.size_drew]); omega))) | ((with_reducible refine Below.trans ?_ (Below.mono hb9 ?_)); rotate_left; (next => ((try dsimp only); (try simp only [World.size_alloc, World.size_setCell, World.size_drew]); omega))) | ((with_reducible refine Below.trans ?_ (Below.mono hb8 ?_)); rotate_left; (next => ((try dsimp only); (try simp only [World.size_alloc, World.size_setCell, World.size_drew]); omega))) | ((with_reducible refine Below.trans ?_ (Below.mono hb7 ?_)); rotate_left; (next => ((try dsimp only); (try simp only [World.size_alloc, World.size_setCell, World.size_drew]); omega))) | ((with_reducible refine Below.trans ?_ (Below.mono hb6 ?_)); rotate_left; (next => ((try dsimp only); (try simp only [World.size_alloc, World.size_setCell, World.size_drew]); omega))) | ((with_reducible refine Below.trans ?_ (Below.mono hb5 ?_)); rotate_left; (next => ((try dsimp only); (try simp only [World.size_alloc, World.size_setCell, World.size_drew]); omega))) | ((with_reducible refine Below.trans ?_ (Below.mono hb4 ?_)); rotate_left; (next => ((try dsimp only); (try simp only [World.size_alloc, World.size_setCell, World.size_drew]); omega))))))
    refine wp_region_quiet_all (Ext _) (by kernel_rfl) (by kernel_rfl) (Ext.drawn _) ?_
    repeat (first | go_big_quiet_skip | go_big_quiet_step (fail) | (refine BigFrame.wpQuiet_want rfl (fun K hK => ?_); apply Exists.intro; refine ⟨fun w2 h2 => ?_, ?_⟩; (next => (have g1 := Below.cells h2.below; have g2 := Below.frozens h2.below; (try simp only [World.size_alloc, World.size_setCell] at g1 g2); first | (go_simp; (refine h2.calls (HSum.out _ _ _ ((R14.out.below (by repeat (first | (with_reducible exact Below.refl _ _) | ((with_reducible refine Below.alloc ?_ ?_ _); rotate_left; (next => ((try dsimp only); (try simp only [World.size_alloc, World.size_setCell, World.size_drew]); omega))) | ((with_reducible refine Below.setCell ?_ ?_ _); rotate_left; (next => ((try dsimp only); (try simp only [World.size_alloc, World.size_setCell, World.size_drew]); omega))) | (with_reducible refine Below.drew ?_) | (refine Below.trans ?_ (by assumption))))).below h2.below)))) | (simp [go_sem, ↓IntWalk.iteOmega, *]; done) | (simp [go_sem, ↓IntWalk.iteOmega, *]; rfl)))); (go_simp; refine hK _ ?_; clear hK K))
    refine wpQuiet_nil ?_
    intro w15 h15
    have hb15 := h15.below
    clear h15
    have z15 := hb15.size
    have c15 := Below.cells hb15
    have f15 := Below.frozens hb15
    try simp only [World.size_alloc, World.size_setCell, World.size_drew] at z15 c15 f15
    go_wp2_with fail
    go_ret
    exact ⟨rfl, (by repeat (first | (with_reducible exact Below.refl _ _) | ((with_reducible refine Below.alloc ?_ ?_ _); rotate_left; (next => ((try dsimp only); (try simp only [World.size_alloc, World.size_setCell, World.size_drew]); omega))) | ((with_reducible refine Below.setCell ?_ ?_ _); rotate_left; (next => ((try dsimp only); (try simp only [World.size_alloc, World.size_setCell, World.size_drew]); omega))) | (with_reducible refine Below.drew ?_) | ((with_reducible refine Below.trans ?_ (Below.mono hb15 ?_)); rotate_left; (next => ((try dsimp only); (try simp only [World.size_alloc, World.size_setCell, World.size_drew]); omega))) | ((with_reducible refine Below.trans ?_ (Below.mono hb14 ?_)); rotate_left; (next => ((try dsimp only); (try simp only [World.size_alloc, World.size_setCell, World.size_drew]); omega))) | ((with_reducible refine Below.trans ?_ (Below.mono hb13 ?_)); rotate_left; (next => ((try dsimp only); (try simp only [World.size_alloc, World.size_setCell, World.size_drew]); omega))) | ((with_reducible refine Below.trans ?_ (Below.mono hb11 ?_)); rotate_left; (next => ((try dsimp only); (try simp only [World.size_alloc, World.size_setCell, World.size_drew]); omega))) | ((with_reducible refine Below.trans ?_ (Below.mono hb10 ?_)); rotate_left; (next => ((try dsimp only); (try simp only [World.size_alloc, World.size_setCell, World.size_drew]); omega))) | ((with_reducible refine Below.trans ?_ (Below.mono hb9 ?_)); rotate_left; (next => ((try dsimp only); (try simp only [World.size_alloc, World.size_setCell, World.size_drew]); omega))) | ((with_reducible refine Below.trans ?_ (Below.mono hb8 ?_)); rotate_left; (next => ((try dsimp only); (try simp only [World.size_alloc, World.size_setCell, World.size_drew]); omega))) | ((with_reducible refine Below.trans ?_ (Below.mono hb7 ?_)); rotate_left; (next => ((try dsimp only); (try simp only [World.size_alloc, World.size_setCell, World.size_drew]); omega))) | ((with_reducible refine Below.trans ?_ (Below.mono hb6 ?_)); rotate_left; (next => ((try dsimp only); (try simp only [World.size_alloc, World.size_setCell, World.size_drew]); omega))) | ((with_reducible refine Below.trans ?_ (Below.mono hb5 ?_)); rotate_left; (next => ((try dsimp only); (try simp only [World.size_alloc, World.size_setCell, World.size_drew]); omega))) | ((with_reducible refine Below.trans ?_ (Below.mono hb4 ?_)); rotate_left; (next => ((try dsimp only); (try simp only [World.size_alloc, World.size_setCell, World.size_drew]); omega))) | ((with_reducible refine Below.trans ?_ (Below.mono hb3 ?_)); rotate_left; (next => ((try dsimp only); (try simp only [World.size_alloc, World.size_setCell, World.size_drew]); omega))) | ((with_reducible refine Below.trans ?_ (Below.mono hb2 ?_)); rotate_left; (next => ((try dsimp only); (try simp only [World.size_alloc, World.size_setCell, World.size_drew]); omega))) | ((with_reducible refine Below.trans ?_ (Below.mono hb1 ?_)); rotate_left; (next => ((try dsimp only); (try simp only [World.size_alloc, World.size_setCell, World.size_drew]); omega)))))⟩
end Go.Proofs.Ytlnagfmaiabhaaa

import Derived.Test.YtihkkmokkhkjdaaLw
set_option linter.unusedSimpArgs false
set_option linter.unusedVariables false
namespace Go.Proofs.Ytihkkmokkhkjdaa
open Go.RowKit

set_option maxRecDepth 100000 in
set_option maxHeartbeats 8000000 in
theorem levelGrows_walk (a : Option Addr) (len cap : Nat) (l : List Int) (p q r : Int) (w : World) (hin : InRow w a len cap l) (_ : (Lit.int .i64 p).wf = true) (_ : (Lit.int .i64 q).wf = true) (_ : (Lit.int .i64 r).wf = true) :
    Calls Try.prog 7 #[.slice a len cap, .int .i64 p, .int .i64 q, .int .i64 r] w fun e w' =>
      e = .returned (.bool true) ∧ Below w.heap.size w w' := by
  obtain ⟨ys, n, S, Q, X, hy, hn, h1, hm, hb, hS, hQ, hX, ok, Xb⟩ := lev_pack l
  have b1 := within_bd p (n := 16777216) (by omega)
  have b2 := within_bd q (n := 536870912) (by omega)
  have b3 := within_bd r (n := 536870912) (by omega)
  obtain ⟨P, e_P⟩ : ∃ z_, within p 16777216 = z_ := ⟨_, rfl⟩
  rw [e_P] at b1
  have HP := Lib.hid e_P
  clear e_P
  obtain ⟨T, e_T⟩ : ∃ z_, within q 536870912 = z_ := ⟨_, rfl⟩
  rw [e_T] at b2
  have HT := Lib.hid e_T
  clear e_T
  obtain ⟨R, e_R⟩ : ∃ z_, within r 536870912 = z_ := ⟨_, rfl⟩
  rw [e_R] at b3
  have HR := Lib.hid e_R
  clear e_R
  have bd := ok.bd
  obtain ⟨N, hN⟩ : ∃ N, lfl n X (1 + P) = N := ⟨_, rfl⟩
  have Nb := lfl_bd (n := n) (L := 1 + P) (by omega) Xb (by omega)
  rw [hN] at Nb
  have D1 := late0_bd (n := n) (S := S) (T := T) (by omega) (by omega) (by omega)
  have D2 := late0_bd (n := n) (S := S) (T := T + R) (by omega) (by omega) (by omega)
  obtain ⟨k, hk⟩ := levR_ex Nb D1
  obtain ⟨m, hm2⟩ := levR_ex Nb D2
  have DD : late0 n S T ≤ late0 n S (T + R) := by
    have := Int.mul_le_mul_of_nonneg_left (show T ≤ T + R by omega) (show (0 : Int) ≤ n by omega)
    unfold late0; split <;> split <;> omega
  have km := hk.mono Nb.1 D1.1 hm2 DD
  have k0 := hk.1
  have tn : T * (n : Int) = n * T := Int.mul_comm _ _
  have hcs : (S < T * (n : Int)) ∨ (¬ S < T * (n : Int) ∧ k = 0) := by
    by_cases c : S < T * (n : Int)
    · exact .inl c
    · refine .inr ⟨c, ?_⟩
      have z : late0 n S T = 0 := by unfold late0; rw [if_neg (by omega)]
      obtain ⟨a1, a2, a3, a4⟩ := hk
      rw [z] at a3
      rcases Int.lt_or_le 0 k with q | q
      · have p : (2 : Int) ^ 1 ≤ 2 ^ k.toNat := by
          exact pow_le (show 1 ≤ k.toNat by omega)
        have q := Int.mul_le_mul_of_nonneg_left p (show 0 ≤ N by omega)
        omega
      · omega
  have tb := mul_bd (a := T) (b := (n : Int)) (A := 536870912) (B := 64) (by omega) (by omega)
  have e1 : IntKind.i64.wrap (T + R) = T + R := IntWalk.i64_in _ (by omega)
  have e2 : IntKind.i64.wrap (T * (n : Int)) = T * n := IntWalk.i64_in _ (by omega)
  have hwin : ∀ w', InRow w' a len cap l → _ := fun w' h => window_any a len cap l w' h ys n hy hn
  have hlev : ∀ A c w', Row w' A n ys → _ := fun A c w' h => level_ok 64 (1 + P) T S Q X N k A n c ys w' h (by omega) (by omega) (by omega) hb (by omega) (by omega) hS hQ ok hX hN hk
  have hlev2 : ∀ A c w', Row w' A n ys → _ := fun A c w' h => level_ok 64 (1 + P) (T + R) S Q X N m A n c ys w' h (by omega) (by omega) (by omega) hb (by omega) (by omega) hS hQ ok hX hN hm2
  have hsum : ∀ A c w', Row w' A n ys → _ := fun A c w' h => same_below (sum_ok A n c ys S w' h (by omega) hb hS)
  have HWin := Lib.hid hwin
  have HLev := Lib.hid hlev
  have HLev2 := Lib.hid hlev2
  have HSum := Lib.hid hsum
  have HIn := Lib.hid hin
  have qa := alloc_cells
  have qf := alloc_frozens
  clear hwin hlev hlev2 hsum hin hb hn hy hS hQ hX ok hN hk hm2 DD tn D1 D2
  rcases hcs with hc | ⟨hc, rfl⟩
  · have hcd : decide (S < T * (n : Int)) = true := by simpa using hc
    go_enter Try.func7, Try.ntmps7
    go_wp2_with fail
    refine (lbegun_ok _).mono ?_
    rintro e w1 ⟨rfl, hb1⟩
    have z1 := hb1.size
    have c1 := Below.cells hb1
    have f1 := Below.frozens hb1
    try simp only [World.size_alloc, World.size_setCell, World.size_drew] at z1 c1 f1
    go_wp2_with fail
    refine (HWin.out _ (HIn.out.below (by repeat (first | (with_reducible exact Below.refl _ _) | ((with_reducible refine Below.alloc ?_ ?_ _); rotate_left; (next => ((try dsimp only); (try simp only [World.size_alloc, World.size_setCell, World.size_drew]); omega))) | ((with_reducible refine Below.setCell ?_ ?_ _); rotate_left; (next => ((try dsimp only); (try simp only [World.size_alloc, World.size_setCell, World.size_drew]); omega))) | (with_reducible refine Below.drew ?_) | ((with_reducible refine Below.trans ?_ (Below.mono hb1 ?_)); rotate_left; (next => ((try dsimp only); (try simp only [World.size_alloc, World.size_setCell, World.size_drew]); omega))))))).mono ?_
    rintro e w2 ⟨A, c, rfl, hrA, hb2⟩
    have RA := Lib.hid hrA.1
    clear hrA
    have z2 := hb2.size
    have c2 := Below.cells hb2
    have f2 := Below.frozens hb2
    try simp only [World.size_alloc, World.size_setCell, World.size_drew] at z2 c2 f2
    go_wp2_with fail
    refine (within_any p 16777216 P _ (by omega) (by omega) HP.out).mono ?_
    rintro e w' ⟨rfl, rfl⟩
    go_wp2_with fail
    refine (within_any q 536870912 T _ (by omega) (by omega) HT.out).mono ?_
    rintro e w' ⟨rfl, rfl⟩
    go_wp2_with fail
    refine (HLev.out A c _ (RA.out.below (by repeat (first | (with_reducible exact Below.refl _ _) | ((with_reducible refine Below.alloc ?_ ?_ _); rotate_left; (next => ((try dsimp only); (try simp only [World.size_alloc, World.size_setCell, World.size_drew]); omega))) | ((with_reducible refine Below.setCell ?_ ?_ _); rotate_left; (next => ((try dsimp only); (try simp only [World.size_alloc, World.size_setCell, World.size_drew]); omega))) | (with_reducible refine Below.drew ?_) | (refine Below.trans ?_ (by assumption)))))).mono ?_
    rintro e w3 ⟨rfl, hb3⟩
    have z3 := hb3.size
    have c3 := Below.cells hb3
    have f3 := Below.frozens hb3
    try simp only [World.size_alloc, World.size_setCell, World.size_drew] at z3 c3 f3
    go_wp2_with fail
    have R3 := Lib.hid (RA.out.below (w' := w3) (by repeat (first | (with_reducible exact Below.refl _ _) | ((with_reducible refine Below.alloc ?_ ?_ _); rotate_left; (next => ((try dsimp only); (try simp only [World.size_alloc, World.size_setCell, World.size_drew]); omega))) | ((with_reducible refine Below.setCell ?_ ?_ _); rotate_left; (next => ((try dsimp only); (try simp only [World.size_alloc, World.size_setCell, World.size_drew]); omega))) | (with_reducible refine Below.drew ?_) | ((with_reducible refine Below.trans ?_ (Below.mono hb3 ?_)); rotate_left; (next => ((try dsimp only); (try simp only [World.size_alloc, World.size_setCell, World.size_drew]); omega))))))
    refine wp_region_quiet_all (Ext _) (by kernel_rfl) (by kernel_rfl) (Ext.drawn _) ?_
    repeat (first | (refine BigFrame.wpQuiet_skip rfl ?_) | go_big_quiet_step (fail) | (refine BigFrame.wpQuiet_want rfl (fun K hK => ?_); apply Exists.intro; refine ⟨fun w2 h2 => ?_, ?_⟩; (next => (have g1 := Below.cells h2.below; have g2 := Below.frozens h2.below; (try simp only [World.size_alloc, World.size_setCell] at g1 g2); first | (go_simp; (first | (go_at_call 17; refine h2.calls (same_below (within_any r 536870912 R _ (by omega) (by omega) HR.out))) | (go_at_call 37; refine h2.calls (HLev2.out A c _ (R3.out.below h2.below))))) | (simp [go_sem, ↓IntWalk.iteOmega, *]; done) | (simp [go_sem, ↓IntWalk.iteOmega, *]; rfl)))); (go_simp; refine hK _ ?_; clear hK K))
    refine wpQuiet_nil ?_
    intro w4 h4
    have hb4 := h4.below
    clear h4
    have z4 := hb4.size
    have c4 := Below.cells hb4
    have f4 := Below.frozens hb4
    try simp only [World.size_alloc, World.size_setCell, World.size_drew] at z4 c4 f4
    go_wp2_with fail
    have R4 := Lib.hid (RA.out.below (w' := w4) (by repeat (first | (with_reducible exact Below.refl _ _) | ((with_reducible refine Below.alloc ?_ ?_ _); rotate_left; (next => ((try dsimp only); (try simp only [World.size_alloc, World.size_setCell, World.size_drew]); omega))) | ((with_reducible refine Below.setCell ?_ ?_ _); rotate_left; (next => ((try dsimp only); (try simp only [World.size_alloc, World.size_setCell, World.size_drew]); omega))) | (with_reducible refine Below.drew ?_) | ((with_reducible refine Below.trans ?_ (Below.mono hb4 ?_)); rotate_left; (next => ((try dsimp only); (try simp only [World.size_alloc, World.size_setCell, World.size_drew]); omega))) | ((with_reducible refine Below.trans ?_ (Below.mono hb3 ?_)); rotate_left; (next => ((try dsimp only); (try simp only [World.size_alloc, World.size_setCell, World.size_drew]); omega))))))
    refine wp_region_quiet_all (Ext _) (by kernel_rfl) (by kernel_rfl) (Ext.drawn _) ?_
    repeat (first | (refine BigFrame.wpQuiet_skip rfl ?_) | go_big_quiet_step (fail) | (refine BigFrame.wpQuiet_want rfl (fun K hK => ?_); apply Exists.intro; refine ⟨fun w2 h2 => ?_, ?_⟩; (next => (have g1 := Below.cells h2.below; have g2 := Below.frozens h2.below; (try simp only [World.size_alloc, World.size_setCell] at g1 g2); first | (go_simp; (go_at_call 38; refine h2.calls (HSum.out A c _ (R4.out.below h2.below)))) | (simp [go_sem, ↓IntWalk.iteOmega, *]; done) | (simp [go_sem, ↓IntWalk.iteOmega, *]; rfl)))); (go_simp; refine hK _ ?_; clear hK K))
    refine wpQuiet_nil ?_
    intro w5 h5
    have hb5 := h5.below
    clear h5
    have z5 := hb5.size
    have c5 := Below.cells hb5
    have f5 := Below.frozens hb5
    try simp only [World.size_alloc, World.size_setCell, World.size_drew] at z5 c5 f5
    go_wp2_with fail
    go_ret
    exact ⟨rfl, (by repeat (first | (with_reducible exact Below.refl _ _) | ((with_reducible refine Below.alloc ?_ ?_ _); rotate_left; (next => ((try dsimp only); (try simp only [World.size_alloc, World.size_setCell, World.size_drew]); omega))) | ((with_reducible refine Below.setCell ?_ ?_ _); rotate_left; (next => ((try dsimp only); (try simp only [World.size_alloc, World.size_setCell, World.size_drew]); omega))) | (with_reducible refine Below.drew ?_) | ((with_reducible refine Below.trans ?_ (Below.mono hb5 ?_)); rotate_left; (next => ((try dsimp only); (try simp only [World.size_alloc, World.size_setCell, World.size_drew]); omega))) | ((with_reducible refine Below.trans ?_ (Below.mono hb4 ?_)); rotate_left; (next => ((try dsimp only); (try simp only [World.size_alloc, World.size_setCell, World.size_drew]); omega))) | ((with_reducible refine Below.trans ?_ (Below.mono hb3 ?_)); rotate_left; (next => ((try dsimp only); (try simp only [World.size_alloc, World.size_setCell, World.size_drew]); omega))) | ((with_reducible refine Below.trans ?_ (Below.mono hb2 ?_)); rotate_left; (next => ((try dsimp only); (try simp only [World.size_alloc, World.size_setCell, World.size_drew]); omega))) | ((with_reducible refine Below.trans ?_ (Below.mono hb1 ?_)); rotate_left; (next => ((try dsimp only); (try simp only [World.size_alloc, World.size_setCell, World.size_drew]); omega)))))⟩
  · have hcd : decide (S < T * (n : Int)) = false := by simpa using hc
    go_enter Try.func7, Try.ntmps7
    go_wp2_with fail
    refine (lbegun_ok _).mono ?_
    rintro e w1 ⟨rfl, hb1⟩
    have z1 := hb1.size
    have c1 := Below.cells hb1
    have f1 := Below.frozens hb1
    try simp only [World.size_alloc, World.size_setCell, World.size_drew] at z1 c1 f1
    go_wp2_with fail
    refine (HWin.out _ (HIn.out.below (by repeat (first | (with_reducible exact Below.refl _ _) | ((with_reducible refine Below.alloc ?_ ?_ _); rotate_left; (next => ((try dsimp only); (try simp only [World.size_alloc, World.size_setCell, World.size_drew]); omega))) | ((with_reducible refine Below.setCell ?_ ?_ _); rotate_left; (next => ((try dsimp only); (try simp only [World.size_alloc, World.size_setCell, World.size_drew]); omega))) | (with_reducible refine Below.drew ?_) | ((with_reducible refine Below.trans ?_ (Below.mono hb1 ?_)); rotate_left; (next => ((try dsimp only); (try simp only [World.size_alloc, World.size_setCell, World.size_drew]); omega))))))).mono ?_
    rintro e w2 ⟨A, c, rfl, hrA, hb2⟩
    have RA := Lib.hid hrA.1
    clear hrA
    have z2 := hb2.size
    have c2 := Below.cells hb2
    have f2 := Below.frozens hb2
    try simp only [World.size_alloc, World.size_setCell, World.size_drew] at z2 c2 f2
    go_wp2_with fail
    refine (within_any p 16777216 P _ (by omega) (by omega) HP.out).mono ?_
    rintro e w' ⟨rfl, rfl⟩
    go_wp2_with fail
    refine (within_any q 536870912 T _ (by omega) (by omega) HT.out).mono ?_
    rintro e w' ⟨rfl, rfl⟩
    go_wp2_with fail
    refine (HLev.out A c _ (RA.out.below (by repeat (first | (with_reducible exact Below.refl _ _) | ((with_reducible refine Below.alloc ?_ ?_ _); rotate_left; (next => ((try dsimp only); (try simp only [World.size_alloc, World.size_setCell, World.size_drew]); omega))) | ((with_reducible refine Below.setCell ?_ ?_ _); rotate_left; (next => ((try dsimp only); (try simp only [World.size_alloc, World.size_setCell, World.size_drew]); omega))) | (with_reducible refine Below.drew ?_) | (refine Below.trans ?_ (by assumption)))))).mono ?_
    rintro e w3 ⟨rfl, hb3⟩
    have z3 := hb3.size
    have c3 := Below.cells hb3
    have f3 := Below.frozens hb3
    try simp only [World.size_alloc, World.size_setCell, World.size_drew] at z3 c3 f3
    go_wp2_with fail
    have R3 := Lib.hid (RA.out.below (w' := w3) (by repeat (first | (with_reducible exact Below.refl _ _) | ((with_reducible refine Below.alloc ?_ ?_ _); rotate_left; (next => ((try dsimp only); (try simp only [World.size_alloc, World.size_setCell, World.size_drew]); omega))) | ((with_reducible refine Below.setCell ?_ ?_ _); rotate_left; (next => ((try dsimp only); (try simp only [World.size_alloc, World.size_setCell, World.size_drew]); omega))) | (with_reducible refine Below.drew ?_) | ((with_reducible refine Below.trans ?_ (Below.mono hb3 ?_)); rotate_left; (next => ((try dsimp only); (try simp only [World.size_alloc, World.size_setCell, World.size_drew]); omega))))))
    refine wp_region_quiet_all (Ext _) (by kernel_rfl) (by kernel_rfl) (Ext.drawn _) ?_
    repeat (first | (refine BigFrame.wpQuiet_skip rfl ?_) | go_big_quiet_step (fail) | (refine BigFrame.wpQuiet_want rfl (fun K hK => ?_); apply Exists.intro; refine ⟨fun w2 h2 => ?_, ?_⟩; (next => (have g1 := Below.cells h2.below; have g2 := Below.frozens h2.below; (try simp only [World.size_alloc, World.size_setCell] at g1 g2); first | (go_simp; (first | (go_at_call 17; refine h2.calls (same_below (within_any r 536870912 R _ (by omega) (by omega) HR.out))) | (go_at_call 37; refine h2.calls (HLev2.out A c _ (R3.out.below h2.below))))) | (simp [go_sem, ↓IntWalk.iteOmega, *]; done) | (simp [go_sem, ↓IntWalk.iteOmega, *]; rfl)))); (go_simp; refine hK _ ?_; clear hK K))
    refine wpQuiet_nil ?_
    intro w4 h4
    have hb4 := h4.below
    clear h4
    have z4 := hb4.size
    have c4 := Below.cells hb4
    have f4 := Below.frozens hb4
    try simp only [World.size_alloc, World.size_setCell, World.size_drew] at z4 c4 f4
    go_wp2_with fail
    have R4 := Lib.hid (RA.out.below (w' := w4) (by repeat (first | (with_reducible exact Below.refl _ _) | ((with_reducible refine Below.alloc ?_ ?_ _); rotate_left; (next => ((try dsimp only); (try simp only [World.size_alloc, World.size_setCell, World.size_drew]); omega))) | ((with_reducible refine Below.setCell ?_ ?_ _); rotate_left; (next => ((try dsimp only); (try simp only [World.size_alloc, World.size_setCell, World.size_drew]); omega))) | (with_reducible refine Below.drew ?_) | ((with_reducible refine Below.trans ?_ (Below.mono hb4 ?_)); rotate_left; (next => ((try dsimp only); (try simp only [World.size_alloc, World.size_setCell, World.size_drew]); omega))) | ((with_reducible refine Below.trans ?_ (Below.mono hb3 ?_)); rotate_left; (next => ((try dsimp only); (try simp only [World.size_alloc, World.size_setCell, World.size_drew]); omega))))))
    refine wp_region_quiet_all (Ext _) (by kernel_rfl) (by kernel_rfl) (Ext.drawn _) ?_
    repeat (first | (refine BigFrame.wpQuiet_skip rfl ?_) | go_big_quiet_step (fail) | (refine BigFrame.wpQuiet_want rfl (fun K hK => ?_); apply Exists.intro; refine ⟨fun w2 h2 => ?_, ?_⟩; (next => (have g1 := Below.cells h2.below; have g2 := Below.frozens h2.below; (try simp only [World.size_alloc, World.size_setCell] at g1 g2); first | (go_simp; (go_at_call 38; refine h2.calls (HSum.out A c _ (R4.out.below h2.below)))) | (simp [go_sem, ↓IntWalk.iteOmega, *]; done) | (simp [go_sem, ↓IntWalk.iteOmega, *]; rfl)))); (go_simp; refine hK _ ?_; clear hK K))
    refine wpQuiet_nil ?_
    intro w5 h5
    have hb5 := h5.below
    clear h5
    have z5 := hb5.size
    have c5 := Below.cells hb5
    have f5 := Below.frozens hb5
    try simp only [World.size_alloc, World.size_setCell, World.size_drew] at z5 c5 f5
    go_wp2_with fail
    go_ret
    exact ⟨rfl, (by repeat (first | (with_reducible exact Below.refl _ _) | ((with_reducible refine Below.alloc ?_ ?_ _); rotate_left; (next => ((try dsimp only); (try simp only [World.size_alloc, World.size_setCell, World.size_drew]); omega))) | ((with_reducible refine Below.setCell ?_ ?_ _); rotate_left; (next => ((try dsimp only); (try simp only [World.size_alloc, World.size_setCell, World.size_drew]); omega))) | (with_reducible refine Below.drew ?_) | ((with_reducible refine Below.trans ?_ (Below.mono hb5 ?_)); rotate_left; (next => ((try dsimp only); (try simp only [World.size_alloc, World.size_setCell, World.size_drew]); omega))) | ((with_reducible refine Below.trans ?_ (Below.mono hb4 ?_)); rotate_left; (next => ((try dsimp only); (try simp only [World.size_alloc, World.size_setCell, World.size_drew]); omega))) | ((with_reducible refine Below.trans ?_ (Below.mono hb3 ?_)); rotate_left; (next => ((try dsimp only); (try simp only [World.size_alloc, World.size_setCell, World.size_drew]); omega))) | ((with_reducible refine Below.trans ?_ (Below.mono hb2 ?_)); rotate_left; (next => ((try dsimp only); (try simp only [World.size_alloc, World.size_setCell, World.size_drew]); omega))) | ((with_reducible refine Below.trans ?_ (Below.mono hb1 ?_)); rotate_left; (next => ((try dsimp only); (try simp only [World.size_alloc, World.size_setCell, World.size_drew]); omega)))))⟩
end Go.Proofs.Ytihkkmokkhkjdaa

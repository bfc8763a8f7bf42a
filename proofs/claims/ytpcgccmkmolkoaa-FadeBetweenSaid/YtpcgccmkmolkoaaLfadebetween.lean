import Derived.Test.YtpcgccmkmolkoaaRun
import Derived.Test.YtpcgccmkmolkoaaVal
import Derived.Test.YtpcgccmkmolkoaaMm
set_option linter.unusedSimpArgs false
set_option linter.unusedVariables false
namespace Go.Proofs.Ytpcgccmkmolkoaa
open Go.RowKit

set_option maxRecDepth 100000 in
set_option maxHeartbeats 8000000 in
theorem fadeBetween_walk (p q r : Int) (a : Option Addr) (len cap : Nat) (l : List Int) (w : World) (_ : (Lit.int .i64 p).wf = true) (_ : (Lit.int .i64 q).wf = true) (_ : (Lit.int .i64 r).wf = true) (hin : InRow w a len cap l) :
    Calls Try.prog 17 #[.int .i64 p, .int .i64 q, .int .i64 r, .slice a len cap] w fun e w' =>
      e = .returned (.bool true) ∧ Below w.heap.size w w' := by
  have b1 := within_bd p (n := 4294967297) (by omega)
  have b2 := within_bd q (n := 16777217) (by omega)
  have b3 := within_bd r (n := 9) (by omega)
  obtain ⟨P, e_P⟩ : ∃ z_, within p 4294967297 = z_ := ⟨_, rfl⟩
  rw [e_P] at b1
  have HP := Lib.hid e_P
  clear e_P
  obtain ⟨Q, e_Q⟩ : ∃ z_, within q 16777217 = z_ := ⟨_, rfl⟩
  rw [e_Q] at b2
  have HQ := Lib.hid e_Q
  clear e_Q
  obtain ⟨R, e_R⟩ : ∃ z_, within r 9 = z_ := ⟨_, rfl⟩
  rw [e_R] at b3
  have HR := Lib.hid e_R
  clear e_R
  have s2 : R ≤ 8 := by omega
  obtain ⟨ys, n, hy, hn, hm, hb⟩ := vals_facts l
  have hval : ∀ w', InRow w' a len cap l → _ := fun w' h => values_at a len cap l w' h ys n hy hn
  obtain ⟨X, hX⟩ : ∃ X, fnext P Q R = X := ⟨_, rfl⟩
  have hcs : (256 * Q < P ∧ ¬ P < 256 * Q ∧ ¬ X < 256 * Q ∧ ¬ P < X) ∨ (256 * Q = P ∧ X = P) ∨ (P < 256 * Q ∧ ¬ 256 * Q < P ∧ ¬ X < P ∧ ¬ 256 * Q < X) := by
    rcases Int.lt_trichotomy (256 * Q) P with h | h | h
    · have := fnext_btw (m := P) (n := Q) (s := R) (lo := 256 * Q) (hi := P) b3.1 s2 (by omega) (by omega); rw [hX] at this; exact .inl ⟨h, by omega, by omega, by omega⟩
    · have := fnext_btw (m := P) (n := Q) (s := R) (lo := P) (hi := P) b3.1 s2 (by omega) (by omega); rw [hX] at this; exact .inr (.inl ⟨h, by omega⟩)
    · have := fnext_btw (m := P) (n := Q) (s := R) (lo := P) (hi := 256 * Q) b3.1 s2 (by omega) (by omega); rw [hX] at this; exact .inr (.inr ⟨h, by omega, by omega, by omega⟩)
  have hnx : ∀ w', _ := fun w' => next_ok P Q R X (by omega) (by omega) (by omega) (by omega) (by omega) (by omega) hX w'
  have HNx := Lib.hid hnx
  have HVal := Lib.hid hval
  have HIn := Lib.hid hin
  have qa := alloc_cells
  have qf := alloc_frozens
  rcases Nat.eq_zero_or_pos n with h0 | h0
  · subst h0
    clear hval hin hb hn hy hX hnx hm
    rcases hcs with ⟨h1, h2, h3, h4⟩ | ⟨rfl, rfl⟩ | ⟨h1, h2, h3, h4⟩
    all_goals
      go_enter Try.func17, Try.ntmps17
      go_wp2_with fail
      refine (next_ok 256 3 1 512 (by omega) (by omega) (by omega) (by omega) (by omega) (by omega) (by decide) _).mono ?_
      rintro e w' ⟨rfl, rfl⟩
      go_wp2_with fail
      refine (within_any p 4294967297 _ _ (by omega) (by omega) HP.out).mono ?_
      rintro e w' ⟨rfl, rfl⟩
      go_wp2_with fail
      refine (within_any q 16777217 _ _ (by omega) (by omega) HQ.out).mono ?_
      rintro e w' ⟨rfl, rfl⟩
      go_wp2_with fail
      refine (within_any r 9 _ _ (by omega) (by omega) HR.out).mono ?_
      rintro e w' ⟨rfl, rfl⟩
      go_wp2_with fail
      refine (HNx.out _).mono ?_
      rintro e w' ⟨rfl, rfl⟩
      go_wp2_with fail
      refine (HVal.out _ HIn.out).mono ?_
      rintro e w1 ⟨A, c, rfl, hrA, hb1⟩
      have RA := Lib.hid hrA.1
      have EA := Lib.hid hrA.1.each
      have IA := Lib.hid hrA
      have capA := hrA.2.1
      clear hrA
      have z1 := hb1.size
      have c1 := Below.cells hb1
      have f1 := Below.frozens hb1
      try simp only [World.size_alloc, World.size_setCell, World.size_drew] at z1 c1 f1
      go_wp2_with fail
      go_ret
      exact ⟨rfl, (by repeat (first | (with_reducible exact Below.refl _ _) | ((with_reducible refine Below.alloc ?_ ?_ _); rotate_left; (next => ((try dsimp only); (try simp only [World.size_alloc, World.size_setCell, World.size_drew]); omega))) | ((with_reducible refine Below.setCell ?_ ?_ _); rotate_left; (next => ((try dsimp only); (try simp only [World.size_alloc, World.size_setCell, World.size_drew]); omega))) | (with_reducible refine Below.drew ?_) | ((with_reducible refine Below.trans ?_ (Below.mono hb1 ?_)); rotate_left; (next => ((try dsimp only); (try simp only [World.size_alloc, World.size_setCell, World.size_drew]); omega)))))⟩
  · obtain ⟨lo, hlo⟩ := IsMin.ex (l := ys) (by omega)
    obtain ⟨hi', hhi⟩ := IsMax.ex (l := ys) (by omega)
    have hbt : Btw lo hi' ys := fun x hx => ⟨hlo.2 x hx, hhi.2 x hx⟩
    have hne : ((n : Int) == 0) = false := by simp; omega
    have t := frun_btw b3.1 s2 (by omega) hbt
    obtain ⟨K, e_K⟩ : ∃ z_, frun R ys = z_ := ⟨_, rfl⟩
    rw [e_K] at t
    have HK := Lib.hid e_K
    clear e_K
    have blo := hb lo hlo.1
    have bhi := hb hi' hhi.1
    have hrun : ∀ A c w', InRow w' A n c ys → _ := fun A c w' h => run_ok A n c ys R K w' h.1 h0 h.2.1 h.2.2 hm hb b3.1 s2 HK.out
    have hmin : ∀ A c w', Row w' A n ys → _ := fun A c w' h => min_ok A n c ys lo w' h h0 (by omega) hlo
    have hmax : ∀ A c w', Row w' A n ys → _ := fun A c w' h => max_ok A n c ys hi' w' h h0 (by omega) hhi
    have HRun := Lib.hid hrun
    have HMin := Lib.hid hmin
    have HMax := Lib.hid hmax
    clear hval hrun hmin hmax hin hb hn hy hX hnx hlo hhi hbt
    rcases hcs with ⟨h1, h2, h3, h4⟩ | ⟨rfl, rfl⟩ | ⟨h1, h2, h3, h4⟩
    all_goals
      go_enter Try.func17, Try.ntmps17
      go_wp2_with fail
      refine (next_ok 256 3 1 512 (by omega) (by omega) (by omega) (by omega) (by omega) (by omega) (by decide) _).mono ?_
      rintro e w' ⟨rfl, rfl⟩
      go_wp2_with fail
      refine (within_any p 4294967297 _ _ (by omega) (by omega) HP.out).mono ?_
      rintro e w' ⟨rfl, rfl⟩
      go_wp2_with fail
      refine (within_any q 16777217 _ _ (by omega) (by omega) HQ.out).mono ?_
      rintro e w' ⟨rfl, rfl⟩
      go_wp2_with fail
      refine (within_any r 9 _ _ (by omega) (by omega) HR.out).mono ?_
      rintro e w' ⟨rfl, rfl⟩
      go_wp2_with fail
      refine (HNx.out _).mono ?_
      rintro e w' ⟨rfl, rfl⟩
      go_wp2_with fail
      refine (HVal.out _ HIn.out).mono ?_
      rintro e w1 ⟨A, c, rfl, hrA, hb1⟩
      have RA := Lib.hid hrA.1
      have EA := Lib.hid hrA.1.each
      have IA := Lib.hid hrA
      have capA := hrA.2.1
      clear hrA
      have z1 := hb1.size
      have c1 := Below.cells hb1
      have f1 := Below.frozens hb1
      try simp only [World.size_alloc, World.size_setCell, World.size_drew] at z1 c1 f1
      go_wp2_with fail
      refine (HRun.out A c _ IA.out).mono ?_
      rintro e w' ⟨rfl, rfl⟩
      go_wp2_with fail
      refine (HMin.out A c _ RA.out).mono ?_
      rintro e w' ⟨rfl, rfl⟩
      go_wp2_with fail
      refine (HMax.out A c _ RA.out).mono ?_
      rintro e w' ⟨rfl, rfl⟩
      go_wp2_with fail
      go_ret
      exact ⟨rfl, (by repeat (first | (with_reducible exact Below.refl _ _) | ((with_reducible refine Below.alloc ?_ ?_ _); rotate_left; (next => ((try dsimp only); (try simp only [World.size_alloc, World.size_setCell, World.size_drew]); omega))) | ((with_reducible refine Below.setCell ?_ ?_ _); rotate_left; (next => ((try dsimp only); (try simp only [World.size_alloc, World.size_setCell, World.size_drew]); omega))) | (with_reducible refine Below.drew ?_) | ((with_reducible refine Below.trans ?_ (Below.mono hb1 ?_)); rotate_left; (next => ((try dsimp only); (try simp only [World.size_alloc, World.size_setCell, World.size_drew]); omega)))))⟩
end Go.Proofs.Ytpcgccmkmolkoaa

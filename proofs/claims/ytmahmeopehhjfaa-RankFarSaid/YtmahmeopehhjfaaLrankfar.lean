import Derived.Test.YtmahmeopehhjfaaFar
import Derived.Test.YtmahmeopehhjfaaVal
set_option linter.unusedSimpArgs false
set_option linter.unusedVariables false
namespace Go.Proofs.Ytmahmeopehhjfaa
open Go.RowKit

set_option maxRecDepth 100000 in
set_option maxHeartbeats 4000000 in
theorem rankFar_walk (a : Option Addr) (len cap : Nat) (l : List Int) (p q : Int) (w : World) (hin : InRow w a len cap l) (_ : (Lit.int .i64 p).wf = true) (_ : (Lit.int .i64 q).wf = true) :
    Calls Try.prog 3 #[.slice a len cap, .int .i64 p, .int .i64 q] w fun e w' =>
      e = .returned (.bool true) ∧ Below w.heap.size w w' := by
  obtain ⟨ys, n, hy, hn, hm, hb⟩ := vals_facts l
  have b1 := within_bd p (n := 16777216) (by omega)
  have b2 := within_bd q (n := 16777216) (by omega)
  obtain ⟨P, e_P⟩ : ∃ z_, within p 16777216 = z_ := ⟨_, rfl⟩
  rw [e_P] at b1
  have HP := Lib.hid e_P
  clear e_P
  obtain ⟨Q, e_Q⟩ : ∃ z_, within q 16777216 = z_ := ⟨_, rfl⟩
  rw [e_Q] at b2
  have HQ := Lib.hid e_Q
  clear e_Q
  have t1 := far_tri P Q ys
  have t2 := far_step P ys
  rw [hn] at t1 t2
  have u1 := far_bd hb (c := P) (by omega)
  have u2 := far_bd hb (c := Q) (by omega)
  have u3 := far_bd hb (c := P + 1) (by omega)
  rw [hn] at u1 u2 u3
  have hval : ∀ w', InRow w' a len cap l → _ := fun w' h => values_at a len cap l w' h ys n hy hn
  have hf : ∀ y f, 0 ≤ y ∧ y ≤ 16777216 → far y ys = f → ∀ A c w', Row w' A n ys → _ := fun y f hy hf A c w' h => far_ok A n c ys y f w' h hm hb hy hf
  have HVal := Lib.hid hval
  have HF := Lib.hid hf
  have HIn := Lib.hid hin
  obtain ⟨X, e_X⟩ : ∃ z_, far P ys = z_ := ⟨_, rfl⟩
  rw [e_X] at t1 t2 u1
  have HX := Lib.hid e_X
  clear e_X
  obtain ⟨Y, e_Y⟩ : ∃ z_, far Q ys = z_ := ⟨_, rfl⟩
  rw [e_Y] at t1 u2
  have HY := Lib.hid e_Y
  clear e_Y
  obtain ⟨Z, e_Z⟩ : ∃ z_, far (P + 1) ys = z_ := ⟨_, rfl⟩
  rw [e_Z] at t2 u3
  have HZ := Lib.hid e_Z
  clear e_Z
  have qa := alloc_cells
  have qf := alloc_frozens
  have t2' : Z - X ≤ n ∧ X - Z ≤ n := t2
  have hcs : (P - Q < Q - P ∧ (n : Int) * (Q - P) ≤ X + Y ∧ 0 ≤ (n : Int) * (Q - P)) ∨ (¬ P - Q < Q - P ∧ (n : Int) * (P - Q) ≤ X + Y ∧ 0 ≤ (n : Int) * (P - Q)) := by
    unfold dist at t1
    by_cases h : P - Q < Q - P
    · rw [if_pos h] at t1; exact .inl ⟨h, t1, Int.mul_nonneg (by omega) (by omega)⟩
    · rw [if_neg h] at t1; exact .inr ⟨h, t1, Int.mul_nonneg (by omega) (by omega)⟩
  clear hval hf hin hy hn hb t1 t2
  rcases hcs with ⟨h, t1, t3⟩ | ⟨h, t1, t3⟩
  all_goals
    go_enter Try.func3, Try.ntmps3
    go_wp2_with fail
    refine (far_ok _ 2 2 [1, 9] 9 8 _ (Row.lit _ _ [1, 9] 2 rfl) (by omega) (by decide) (by omega) (by decide)).mono ?_
    rintro e w' ⟨rfl, rfl⟩
    go_wp2_with fail
    refine (HVal.out _ (HIn.out.below (by repeat (first | (with_reducible exact Below.refl _ _) | ((with_reducible refine Below.alloc ?_ ?_ _); rotate_left; (next => ((try dsimp only); (try simp only [World.size_alloc, World.size_setCell, World.size_drew]); omega))) | ((with_reducible refine Below.setCell ?_ ?_ _); rotate_left; (next => ((try dsimp only); (try simp only [World.size_alloc, World.size_setCell, World.size_drew]); omega))) | (with_reducible refine Below.drew ?_) | (refine Below.trans ?_ (by assumption)))))).mono ?_
    rintro e w1 ⟨A, c, rfl, hrA, hb1⟩
    have RA := Lib.hid hrA.1
    have EA := Lib.hid hrA.1.each
    have IA := Lib.hid hrA
    have capA := hrA.2.1
    clear hrA
    have z1 := hb1.size
    have c1 := Below.cells hb1
    have f1 := Below.frozens hb1
    try simp only [World.size_alloc, World.size_setCell, World.size_drew] at z1 c1 f1
    go_wp2_with fail
    refine (within_any p 16777216 P _ (by omega) (by omega) HP.out).mono ?_
    rintro e w' ⟨rfl, rfl⟩
    go_wp2_with fail
    refine (within_any q 16777216 Q _ (by omega) (by omega) HQ.out).mono ?_
    rintro e w' ⟨rfl, rfl⟩
    go_wp2_with fail
    refine (HF.out P X (by omega) HX.out A c _ RA.out).mono ?_
    rintro e w' ⟨rfl, rfl⟩
    go_wp2_with fail
    refine (HF.out Q Y (by omega) HY.out A c _ RA.out).mono ?_
    rintro e w' ⟨rfl, rfl⟩
    go_wp2_with fail
    refine (HF.out (P + 1) Z (by omega) HZ.out A c _ RA.out).mono ?_
    rintro e w' ⟨rfl, rfl⟩
    go_wp2_with fail
    go_ret
    exact ⟨rfl, (by repeat (first | (with_reducible exact Below.refl _ _) | ((with_reducible refine Below.alloc ?_ ?_ _); rotate_left; (next => ((try dsimp only); (try simp only [World.size_alloc, World.size_setCell, World.size_drew]); omega))) | ((with_reducible refine Below.setCell ?_ ?_ _); rotate_left; (next => ((try dsimp only); (try simp only [World.size_alloc, World.size_setCell, World.size_drew]); omega))) | (with_reducible refine Below.drew ?_) | ((with_reducible refine Below.trans ?_ (Below.mono hb1 ?_)); rotate_left; (next => ((try dsimp only); (try simp only [World.size_alloc, World.size_setCell, World.size_drew]); omega)))))⟩
end Go.Proofs.Ytmahmeopehhjfaa

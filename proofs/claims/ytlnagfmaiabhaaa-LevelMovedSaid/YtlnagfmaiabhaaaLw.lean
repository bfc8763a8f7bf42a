
/-
  What the laws of levels share: the statements' own sum, levelBegun; a window and all that is asked of it.
-/
import Derived.Test.YtlnagfmaiabhaaaLv
set_option linter.unusedSimpArgs false
set_option linter.unusedVariables false
namespace Go.Proofs.Ytlnagfmaiabhaaa
open Go.RowKit

theorem same_below {P : Program} {f : FuncId} {args : Array Value} {w : World} {v : Value} (h : Calls P f args w fun e w' => e = .returned v ∧ w = w') : Calls P f args w fun e w' => e = .returned v ∧ Below w.heap.size w w' :=
  h.mono fun _ _ ⟨he, hw⟩ => ⟨he, hw ▸ Below.refl _ _⟩
/-- A window, and all that is asked of it. -/
theorem lev_pack (l : List Int) : ∃ (ys : List Int) (n : Nat) (S Q X : Int), wind l = ys ∧ ys.length = n ∧ 1 ≤ n ∧ n ≤ 64 ∧ Btw 0 16777216 ys ∧ sumI ys = S ∧ sqI ys = Q ∧ (n : Int) * Q - S * S = X ∧ SumsOK n S Q ∧ 0 ≤ X ∧ X ≤ 1152921504606846976 := by
  obtain ⟨ys, n, h1, h2, h3, h4, h5⟩ := wind_facts l
  have ok := sumsOK_of h5 (by omega)
  rw [h2] at ok
  have bd := ok.bd
  exact ⟨ys, n, _, _, _, h1, h2, h3, h4, h5, rfl, rfl, rfl, ok, by omega, by omega⟩

theorem lev_lit : LevR 1 (late0 1 2 5) 3 := by unfold LevR late0; decide
set_option maxHeartbeats 1000000 in
theorem lbegun_ok (w : World) :
    Calls Try.prog 50 #[] w fun e w' => e = .returned (.bool true) ∧ Below w.heap.size w w' := by
  have qa := alloc_cells
  have qf := alloc_frozens
  have hl := level_ok 1 1 5 2 4 0 1 3 _ 1 1 [2] _ (Row.lit w 3 [2] 1 rfl) (by omega) (by omega) (by omega) (by decide) (by omega) (by omega) rfl rfl (by unfold SumsOK; omega) (by omega) (by decide) lev_lit
  simp only [List.map_cons, List.map_nil] at hl
  have HL := Lib.hid hl
  clear hl
  go_enter Try.func50, Try.ntmps50
  go_wp2_with fail
  refine (HL.out).mono ?_
  rintro e w1 ⟨rfl, hb1⟩
  have z1 := hb1.size
  have c1 := Below.cells hb1
  have f1 := Below.frozens hb1
  try simp only [World.size_alloc, World.size_setCell, World.size_drew] at z1 c1 f1
  go_wp2_with fail
  go_ret
  exact ⟨rfl, (by repeat (first | (with_reducible exact Below.refl _ _) | ((with_reducible refine Below.alloc ?_ ?_ _); rotate_left; (next => ((try dsimp only); (try simp only [World.size_alloc, World.size_setCell, World.size_drew]); omega))) | ((with_reducible refine Below.setCell ?_ ?_ _); rotate_left; (next => ((try dsimp only); (try simp only [World.size_alloc, World.size_setCell, World.size_drew]); omega))) | (with_reducible refine Below.drew ?_) | ((with_reducible refine Below.trans ?_ (Below.mono hb1 ?_)); rotate_left; (next => ((try dsimp only); (try simp only [World.size_alloc, World.size_setCell, World.size_drew]); omega)))))⟩
end Go.Proofs.Ytlnagfmaiabhaaa

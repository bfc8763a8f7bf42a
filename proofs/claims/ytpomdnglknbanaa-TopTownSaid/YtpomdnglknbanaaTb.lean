/-
  hwtop.begun, hwtop.config.
-/
import Derived.Test.YtpomdnglknbanaaQT
import Derived.Test.YtpomdnglknbanaaWw
import Derived.Lib.Hide
import Derived.Below
set_option linter.unusedSimpArgs false
set_option linter.unusedVariables false
namespace Go.Proofs.Ytpomdnglknbanaa
open Go Go.RowKit
set_option maxHeartbeats 4000000 in
theorem te_begun (w : World) :
    Calls Try.prog 24 #[] w fun e w' => e = .returned (.bool true) ∧ Below w.heap.size w w' := by
  have HA := Lib.hid (fun w => add_ok 2 3 5 (Wd.lit (l := 2) (by unfold U64; omega)) (Wd.lit (l := 3) (by unfold U64; omega)) rfl (by unfold U128; omega) w)
  have e1 : hi 5 = 0 := by decide
  have e2 : lo 5 = 5 := by decide
  have qa := alloc_cells
  have qf := alloc_frozens
  go_enter Try.func24, Try.ntmps24
  go_wp2_with fail
  refine (HA.out _).mono ?_
  rintro e w1 ⟨rfl, hb1⟩
  have z1 := hb1.size
  have c1 := Below.cells hb1
  have f1 := Below.frozens hb1
  try simp only [World.size_alloc, World.size_setCell, World.size_drew] at z1 c1 f1
  go_wp2_with fail
  go_ret
  exact ⟨rfl, (by repeat (first | (with_reducible exact Below.refl _ _) | ((with_reducible refine Below.alloc ?_ ?_ _); rotate_left; (next => ((try dsimp only); (try simp only [World.size_alloc, World.size_setCell, World.size_drew]); omega))) | ((with_reducible refine Below.setCell ?_ ?_ _); rotate_left; (next => ((try dsimp only); (try simp only [World.size_alloc, World.size_setCell, World.size_drew]); omega))) | (with_reducible refine Below.drew ?_) | ((with_reducible refine Below.trans ?_ (Below.mono hb1 ?_)); rotate_left; (next => ((try dsimp only); (try simp only [World.size_alloc, World.size_setCell, World.size_drew]); omega)))))⟩
set_option maxHeartbeats 4000000 in
theorem config_ok (id : ByteArray) (n : Int) (w : World) :
    Calls Try.prog 26 #[.string id, .int .i64 n] w fun e w' => e = .returned (.agg #[.string id, .int .i64 0, .int .i64 n, .int .i64 5, .int .i64 2]) ∧ Below w.heap.size w w' := by
  have qa := alloc_cells
  have qf := alloc_frozens
  go_enter Try.func26, Try.ntmps26
  go_wp2_with fail
  refine bodyPost_ret (v := .agg #[.string id, .int .i64 0, .int .i64 n, .int .i64 5, .int .i64 2]) (by simp [results, Try.f26, go_sem, ↓IntWalk.iteOmega, *]) rfl ?_
  exact ⟨rfl, (by repeat (first | (with_reducible exact Below.refl _ _) | ((with_reducible refine Below.alloc ?_ ?_ _); rotate_left; (next => ((try dsimp only); (try simp only [World.size_alloc, World.size_setCell, World.size_drew]); omega))) | ((with_reducible refine Below.setCell ?_ ?_ _); rotate_left; (next => ((try dsimp only); (try simp only [World.size_alloc, World.size_setCell, World.size_drew]); omega))) | (with_reducible refine Below.drew ?_) | (refine Below.trans ?_ (by assumption))))⟩
end Go.Proofs.Ytpomdnglknbanaa

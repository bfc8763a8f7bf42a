/-
  The walk of the statements' own Within: a number from 0 to n - 1.
-/
import Derived.Test.YtpomdnglknbanaaGreatRows
import Derived.WalkKit
import Derived.WalkSpells
import Derived.WalkLawsBesides
set_option linter.unusedSimpArgs false
set_option linter.unusedVariables false
namespace Go.Proofs.YtpomdnglknbanaaGreat
open Go.RowKit

/-- k as a number from 0 to n - 1. -/
def within (k n : Int) : Int := k % 18446744073709551616 % n
theorem within_bd (k : Int) {n : Int} (h : 0 < n) : 0 ≤ within k n ∧ within k n < n := by
  unfold within; exact ⟨Int.emod_nonneg _ (by omega), Int.emod_lt_of_pos _ h⟩

theorem within_walk (k : Int) {n : Int} (h : 0 < n) (h1 : n ≤ 9223372036854775807) : Ending.returned (.int .i64 (wrap64 ((IntKind.u64.wrap k).tmod n))) = .returned (.int .i64 (within k n)) := by
  have b := within_bd k h
  rw [IntKind.wrap_u64, Int.tmod_eq_emod_of_nonneg (by omega)]
  rw [show k % 18446744073709551616 % n = within k n from rfl, IntWalk.wrap64_in _ ⟨by omega, by omega⟩]

set_option maxHeartbeats 400000 in
theorem within_any (k n x : Int) (w : World) (h : 0 < n) (h1 : n ≤ 9223372036854775807) (hx : within k n = x) :
    Calls Tryz.prog 22 #[.int .i64 k, .int .i64 n] w fun e w' =>
      e = .returned (.int .i64 x) ∧ w = w' := by
  subst hx
  go_enter Tryz.func22, Tryz.ntmps22
  go_wp2
  go_ret
  exact ⟨within_walk k h h1, rfl⟩

end Go.Proofs.YtpomdnglknbanaaGreat

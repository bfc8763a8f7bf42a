
/-
  The walk of the statements' own values: at most 64 values out of whatever integers.
-/
import Derived.Test.YtpomdnglknbanaaGreatLs
import Derived.Test.YtpomdnglknbanaaGreatCm
set_option linter.unusedSimpArgs false
set_option linter.unusedVariables false
namespace Go.Proofs.YtpomdnglknbanaaGreat
open Go.RowKit

/-- The values out of l. -/
def vals (l : List Int) : List Int := (l.take 64).map fun x => within x 16777217
theorem vals_len (l : List Int) : (vals l).length = min 64 l.length := by simp [vals]
theorem vals_btw (l : List Int) : Btw 0 16777216 (vals l) := by
  intro x hx
  obtain ⟨y, _, rfl⟩ := List.mem_map.1 hx
  have := within_bd y (n := 16777217) (by omega)
  omega
theorem vals_get {l : List Int} {k : Nat} (h : k < (vals l).length) : (vals l).getD k 0 = within (l.getD k 0) 16777217 := by
  have h2 := h
  rw [vals_len] at h2
  simp [vals, List.getD, List.getElem?_take, show k < 64 by omega, show k < l.length by omega]

/-- What is so of values. -/
theorem vals_facts (l : List Int) : ∃ ys m, vals l = ys ∧ ys.length = m ∧ m ≤ 64 ∧ Btw 0 16777216 ys := ⟨_, _, rfl, rfl, by rw [vals_len]; omega, vals_btw l⟩
end Go.Proofs.YtpomdnglknbanaaGreat

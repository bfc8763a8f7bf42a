
/-
  slices.IsSorted of what is sorted.
-/
import Derived.Test.YtlnagfmaiabhaaaLs
import Derived.Test.YtlnagfmaiabhaaaShelf
set_option linter.unusedSimpArgs false
set_option linter.unusedVariables false
namespace Go.Proofs.Ytlnagfmaiabhaaa
open Go.RowKit
theorem same_below2 {P : Program} {f : FuncId} {args : Array Value} {w : World} {v : Value} (h : Calls P f args w fun e w' => e = .returned v ∧ w' = w) : Calls P f args w fun e w' => e = .returned v ∧ Below w.heap.size w w' :=
  h.mono fun _ _ ⟨he, hw⟩ => ⟨he, hw ▸ Below.refl _ _⟩
theorem pair_le {l : List Int} (h : l.Pairwise (· ≤ ·)) {i j : Nat} (hij : i < j) (hj : j < l.length) : l.getD i 0 ≤ l.getD j 0 := by
  have := List.pairwise_iff_getElem.1 h i j (by omega) hj hij
  simpa [List.getD, show i < l.length by omega, hj] using this

end Go.Proofs.Ytlnagfmaiabhaaa

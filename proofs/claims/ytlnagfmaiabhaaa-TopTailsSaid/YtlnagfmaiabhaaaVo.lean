
/-
  The walks of package vote (look, Some) and of the statements' own levels.
-/
import Derived.Test.YtlnagfmaiabhaaaLs
import Derived.Test.YtlnagfmaiabhaaaCm
import Derived.Test.YtlnagfmaiabhaaaTl
set_option linter.unusedSimpArgs false
set_option linter.unusedVariables false
namespace Go.Proofs.Ytlnagfmaiabhaaa
open Go.RowKit

/-- The levels out of l. -/
def lvls (l : List Int) : List Int := (l.take 64).map fun x => within x 128
theorem lvls_len (l : List Int) : (lvls l).length = min 64 l.length := by simp [lvls]
theorem lvls_btw (l : List Int) : Btw 0 127 (lvls l) := by
  intro x hx
  obtain ⟨y, _, rfl⟩ := List.mem_map.1 hx
  have := within_bd y (n := 128) (by omega)
  omega
theorem lvls_get {l : List Int} {k : Nat} (h : k < (lvls l).length) : (lvls l).getD k 0 = within (l.getD k 0) 128 := by
  have h2 := h
  rw [lvls_len] at h2
  simp [lvls, List.getD, List.getElem?_take, show k < 64 by omega, show k < l.length by omega]

theorem same_below {P : Program} {f : FuncId} {args : Array Value} {w : World} {v : Value} (h : Calls P f args w fun e w' => e = .returned v ∧ w = w') : Calls P f args w fun e w' => e = .returned v ∧ Below w.heap.size w w' :=
  h.mono fun _ _ ⟨he, hw⟩ => ⟨he, hw ▸ Below.refl _ _⟩
end Go.Proofs.Ytlnagfmaiabhaaa

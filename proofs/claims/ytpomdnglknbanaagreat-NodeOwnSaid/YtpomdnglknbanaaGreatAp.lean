/-
  Two own rows beside each other.
-/
import Derived.Test.YtpomdnglknbanaaGreatLs
set_option linter.unusedSimpArgs false
set_option linter.unusedVariables false
namespace Go.Proofs.YtpomdnglknbanaaGreat
open Go.RowKit

/-- Two values do not share a block. -/
def Far2 (v u : Value) : Prop := ∀ g, v.ownBlock = some g → u.ownBlock ≠ some g
theorem far2_nil (u : Value) : Far2 (.slice none 0 0) u := fun g h => by simp [Value.ownBlock] at h
theorem far2_nil' (u : Value) : Far2 u (.slice none 0 0) := fun g _ h => by simp [Value.ownBlock] at h
/-- What is made behind a row is apart from it. -/
theorem far2_new {w w' : World} {B e e' n n' s s' : Nat} {v u : Value} {xs ys : List Value} (h : w.ownsRow B e s v n xs) (h' : w'.ownsRow w.heap.size e' s' u n' ys) : Far2 v u := fun g hv hu => by
  have := (h.lt g hv).2
  have := (h'.lt g hu).1
  omega
/-- What is owned beside a row that is appended to stays owned, and apart. -/
theorem own_beside2 {w w' : World} {B e n : Nat} {v u u' : Value} {xs : List Value} (h : w.ownsRow B e 1 v n xs) (ha : Far2 u v) (hg : w.grownBy w' u.ownBlock)
    (hat : ∀ g, u'.ownBlock = some g → u.ownBlock = some g ∨ w.heap.size ≤ g) : w'.ownsRow B e 1 v n xs ∧ Far2 u' v := by
  refine ⟨h.kept hg ?_, fun g hu hv => ?_⟩
  · rcases hv : v.ownBlock with _ | g
    · exact .inl rfl
    · exact .inr (fun hc => ha g hc.symm hv)
  · rcases hat g hu with h1 | h1
    · exact ha g h1 hv
    · have := (h.lt g hv).2
      omega
/-- A variable of two cells, stored anew. -/
theorem two_cells {w : World} {b : Nat} {u u' v v' : Value} (h0 : w.cell? ⟨b, 0, none⟩ = some u) (h1 : w.cell? ⟨b, 1, none⟩ = some u') :
    ((w.setCell ⟨b, 0, none⟩ v).setCell ⟨b, 1, none⟩ v').cell? ⟨b, 0, none⟩ = some v ∧ ((w.setCell ⟨b, 0, none⟩ v).setCell ⟨b, 1, none⟩ v').cell? ⟨b, 1, none⟩ = some v' := by
  have n01 : (⟨b, 0, none⟩ : Addr) ≠ ⟨b, 1, none⟩ := by simp
  have a1 : (w.setCell ⟨b, 0, none⟩ v).cell? ⟨b, 1, none⟩ = some u' := by rw [World.cell?_setCell_other _ _ _ _ n01]; exact h1
  exact ⟨by rw [World.cell?_setCell_other _ _ _ _ n01.symm]; exact World.cell?_setCell_same _ _ _ h0, World.cell?_setCell_same _ _ _ a1⟩
end Go.Proofs.YtpomdnglknbanaaGreat


/-
  The walk of rank.Far, and what is so of the sum of all distances.
-/
import Derived.Test.YtlnagfmaiabhaaaSl
set_option linter.unusedSimpArgs false
set_option linter.unusedVariables false
namespace Go.Proofs.Ytlnagfmaiabhaaa
open Go.RowKit

/-- How far x is from c. -/
def dist (x c : Int) : Int := if x - c < c - x then c - x else x - c
def far (c : Int) : List Int → Int
  | [] => 0
  | x :: l => dist x c + far c l
theorem dist_bd {x c M : Int} (h : 0 ≤ x ∧ x ≤ M) (h' : 0 ≤ c ∧ c ≤ M) : 0 ≤ dist x c ∧ dist x c ≤ M := by unfold dist; split <;> omega
theorem far_append (c : Int) (a b : List Int) : far c (a ++ b) = far c a + far c b := by
  induction a with
  | nil => simp [far]
  | cons x a ih => simp only [List.cons_append, far, ih]; omega
theorem far_snoc (c : Int) (l : List Int) {k : Nat} (h : k < l.length) : far c (l.take (k + 1)) = far c (l.take k) + dist (l.getD k 0) c := by
  rw [take_snoc l h, far_append]; simp [far]
theorem far_bd {l : List Int} {c M : Int} (h : Btw 0 M l) (h' : 0 ≤ c ∧ c ≤ M) : 0 ≤ far c l ∧ far c l ≤ l.length * M := by
  induction l with
  | nil => simp [far]
  | cons x l ih =>
    have a := dist_bd h.head h'
    have b := ih h.tail
    simp only [far, List.length_cons, Int.natCast_add, Int.add_mul]
    omega
theorem far_tri (a b : Int) (l : List Int) : l.length * dist a b ≤ far a l + far b l := by
  induction l with
  | nil => simp [far]
  | cons x l ih =>
    have h : dist a b ≤ dist x a + dist x b := by unfold dist; split <;> split <;> split <;> omega
    simp only [far, List.length_cons, Int.natCast_add, Int.add_mul]
    omega
theorem far_step (a : Int) (l : List Int) : far (a + 1) l - far a l ≤ l.length ∧ far a l - far (a + 1) l ≤ l.length := by
  induction l with
  | nil => simp [far]
  | cons x l ih =>
    have h : dist x (a + 1) - dist x a ≤ 1 ∧ dist x a - dist x (a + 1) ≤ 1 := by unfold dist; split <;> split <;> omega
    simp only [far, List.length_cons, Int.natCast_add]
    omega

end Go.Proofs.Ytlnagfmaiabhaaa

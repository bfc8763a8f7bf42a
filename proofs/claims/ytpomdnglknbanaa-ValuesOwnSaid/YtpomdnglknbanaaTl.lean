
/-
  The walks of tail.Count and tail.Markov, and Markov's inequality.
-/
import Derived.Test.YtpomdnglknbanaaSt
set_option linter.unusedSimpArgs false
set_option linter.unusedVariables false
namespace Go.Proofs.Ytpomdnglknbanaa
open Go.RowKit

/-- How many are at least t. -/
def cnt (t : Int) : List Int → Int
  | [] => 0
  | x :: l => (if t ≤ x then 1 else 0) + cnt t l
theorem cnt_append (t : Int) (a b : List Int) : cnt t (a ++ b) = cnt t a + cnt t b := by
  induction a with
  | nil => simp [cnt]
  | cons x a ih => simp only [List.cons_append, cnt, ih]; omega
theorem cnt_snoc (t : Int) (l : List Int) {k : Nat} (h : k < l.length) : cnt t (l.take (k + 1)) = cnt t (l.take k) + if t ≤ l.getD k 0 then 1 else 0 := by
  rw [take_snoc l h, cnt_append]; simp [cnt]
theorem cnt_bd (t : Int) (l : List Int) : 0 ≤ cnt t l ∧ cnt t l ≤ l.length := by
  induction l with
  | nil => simp [cnt]
  | cons x l ih => simp only [cnt, List.length_cons, Int.natCast_add]; split <;> omega
theorem cnt_anti {s t : Int} (h : s ≤ t) (l : List Int) : cnt t l ≤ cnt s l := by
  induction l with
  | nil => simp [cnt]
  | cons x l ih => simp only [cnt]; split <;> split <;> omega
theorem cnt_sum {t : Int} (ht : 0 ≤ t) {l : List Int} {M : Int} (h : Btw 0 M l) : cnt t l * t ≤ sumI l := by
  induction l with
  | nil => simp [cnt, sumI]
  | cons x l ih =>
    have a := h.head
    have b := ih h.tail
    simp only [cnt, sumI]
    split
    · rw [Int.add_mul]; omega
    · rw [Int.zero_add]; omega
/-- Markov's bound. -/
def markov (n s t : Int) : Int := if s / t < n then s / t else n
theorem quo_bd {s t : Int} (hs : 0 ≤ s) (ht : 1 ≤ t) : 0 ≤ s / t ∧ s / t ≤ s := ⟨Int.ediv_nonneg hs (by omega), Int.ediv_le_self _ hs⟩
theorem quo_anti {s t u : Int} (hs : 0 ≤ s) (ht : 1 ≤ t) (h : t ≤ u) : s / u ≤ s / t := by
  rw [Int.le_ediv_iff_mul_le (by omega)]
  have a := Int.ediv_mul_le s (b := u) (by omega)
  have b : s / u * t ≤ s / u * u := Int.mul_le_mul_of_nonneg_left h (quo_bd hs (by omega)).1
  omega

end Go.Proofs.Ytpomdnglknbanaa

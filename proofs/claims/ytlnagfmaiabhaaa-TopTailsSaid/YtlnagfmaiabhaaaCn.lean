/-
  Plain facts: Cantelli's and Chebyshev's inequalities for lists of integers. No Go in sight.
-/
import Derived.Test.YtlnagfmaiabhaaaTl
import Derived.Test.YtlnagfmaiabhaaaP1
set_option linter.unusedSimpArgs false
set_option linter.unusedVariables false
namespace Go.Proofs.Ytlnagfmaiabhaaa

/-- The sum of the squares of c x + d. -/
def qsum (c d : Int) : List Int → Int
  | [] => 0
  | x :: l => (c * x + d) * (c * x + d) + qsum c d l
theorem qsum_eq (c d : Int) (l : List Int) : qsum c d l = c * c * sqI l + 2 * (c * d * sumI l) + l.length * (d * d) := by
  induction l with
  | nil => simp [qsum, sqI, sumI]
  | cons x l ih =>
    simp only [qsum, sqI, sumI, List.length_cons, Int.natCast_add, ih]
    grind
theorem qsum_nonneg (c d : Int) (l : List Int) : 0 ≤ qsum c d l := by
  induction l with
  | nil => simp [qsum]
  | cons x l ih => have := sq_nonneg (c * x + d); simp only [qsum]; omega
theorem qsum_cnt {c d t K : Int} (hK : 0 ≤ K) {l : List Int} (h : ∀ x ∈ l, t ≤ x → K ≤ c * x + d) : cnt t l * (K * K) ≤ qsum c d l := by
  induction l with
  | nil => simp [cnt, qsum]
  | cons x l ih =>
    have a := ih fun y hy => h y (List.mem_cons_of_mem _ hy)
    have b := sq_nonneg (c * x + d)
    simp only [cnt, qsum]
    split
    · rename_i hx
      have e := h x List.mem_cons_self hx
      have f : K * K ≤ (c * x + d) * (c * x + d) := Int.mul_le_mul e e hK (by omega)
      rw [Int.add_mul, Int.one_mul]; omega
    · rw [Int.zero_add]; omega
/-- Cantelli. -/
theorem cantelli {l : List Int} {n t S X D : Int} (hn : (l.length : Int) = n) (hS : sumI l = S) (hX : spr l = X) (hD : n * t - S = D) (h0 : 0 < D) : cnt t l * (X + D * D) ≤ n * X := by
  have x0 : 0 ≤ X := hX ▸ spr_nonneg l
  have dd : 0 < D * D := Int.mul_pos h0 h0
  have nn : 0 ≤ n := by omega
  have k : ∀ x ∈ l, t ≤ x → X + D * D ≤ (D * n) * x + (X - D * S) := by
    intro x _ hx
    have a : n * t ≤ n * x := Int.mul_le_mul_of_nonneg_left hx nn
    have b : D * D ≤ D * (n * x - S) := Int.mul_le_mul_of_nonneg_left (by omega) (by omega)
    rw [Int.mul_sub] at b
    have c : D * n * x = D * (n * x) := Int.mul_assoc _ _ _
    omega
  have q := qsum_cnt (by omega) k
  rw [qsum_eq, hS, hn] at q
  have e : D * n * (D * n) * sqI l + 2 * (D * n * (X - D * S) * S) + n * ((X - D * S) * (X - D * S)) = n * X * (X + D * D) := by
    have hX' : X = n * sqI l - S * S := by rw [← hX, ← hS, ← hn]; rfl
    rw [hX']; grind
  rw [e, ← Int.mul_assoc] at q
  exact Int.le_of_mul_le_mul_right q (by omega)

/-- How many are at least d away from the mean (all of it n times). -/
def fcnt (n S d : Int) : List Int → Int
  | [] => 0
  | x :: l => (if n * d ≤ max (n * x - S) (-(n * x - S)) then 1 else 0) + fcnt n S d l
theorem fcnt_append (n S d : Int) (a b : List Int) : fcnt n S d (a ++ b) = fcnt n S d a + fcnt n S d b := by
  induction a with
  | nil => simp [fcnt]
  | cons x a ih => simp only [List.cons_append, fcnt, ih]; omega
theorem fcnt_snoc (n S d : Int) (l : List Int) {k : Nat} (h : k < l.length) : fcnt n S d (l.take (k + 1)) = fcnt n S d (l.take k) + if n * d ≤ max (n * l.getD k 0 - S) (-(n * l.getD k 0 - S)) then 1 else 0 := by
  rw [take_snoc l h, fcnt_append]; simp [fcnt]
theorem fcnt_bd (n S d : Int) (l : List Int) : 0 ≤ fcnt n S d l ∧ fcnt n S d l ≤ l.length := by
  induction l with
  | nil => simp [fcnt]
  | cons x l ih => simp only [fcnt, List.length_cons, Int.natCast_add]; split <;> omega
theorem fcnt_qsum {n S d : Int} (h0 : 0 ≤ n * d) (l : List Int) : fcnt n S d l * (n * d * (n * d)) ≤ qsum n (-S) l := by
  induction l with
  | nil => simp [fcnt, qsum]
  | cons x l ih =>
    have b := sq_nonneg (n * x + -S)
    simp only [fcnt, qsum]
    split
    · rename_i hx
      have f : n * d * (n * d) ≤ (n * x + -S) * (n * x + -S) := by
        rcases Int.le_total 0 (n * x - S) with c | c
        · exact Int.mul_le_mul (by omega) (by omega) h0 (by omega)
        · have : n * d * (n * d) ≤ (-(n * x + -S)) * (-(n * x + -S)) := Int.mul_le_mul (by omega) (by omega) h0 (by omega)
          rwa [Int.neg_mul_neg] at this
      rw [Int.add_mul, Int.one_mul]; omega
    · rw [Int.zero_add]; omega
/-- Chebyshev. -/
theorem chebyshev {l : List Int} {n d S X : Int} (hn : (l.length : Int) = n) (h1 : 1 ≤ n) (hd : 1 ≤ d) (hS : sumI l = S) (hX : spr l = X) : fcnt n S d l * (n * (d * d)) ≤ X := by
  have q := fcnt_qsum (n := n) (S := S) (d := d) (Int.mul_nonneg (by omega) (by omega)) l
  rw [qsum_eq, hS, hn] at q
  have e : n * n * sqI l + 2 * (n * -S * S) + n * (-S * -S) = X * n := by
    have hX' : X = n * sqI l - S * S := by rw [← hX, ← hS, ← hn]; rfl
    rw [hX']; grind
  rw [e] at q
  have g : fcnt n S d l * (n * d * (n * d)) = fcnt n S d l * (n * (d * d)) * n := by grind
  rw [g] at q
  exact Int.le_of_mul_le_mul_right q (by omega)
end Go.Proofs.Ytlnagfmaiabhaaa

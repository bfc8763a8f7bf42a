
import Derived.Test.YtlnagfmaiabhaaaRc
import Derived.Test.YtlnagfmaiabhaaaFar
set_option linter.unusedSimpArgs false
set_option linter.unusedVariables false
namespace Go.Proofs.Ytlnagfmaiabhaaa
open Go.RowKit

theorem kth_rank (n : Nat) (p q : Int) (h0 : 0 < n) (hq : 1 ≤ q) (hp : 0 ≤ p ∧ p ≤ q) : ∃ K : Nat, max 1 (((n : Int) * p + q - 1) / q) = (K : Int) + 1 ∧ K < n ∧ (n : Int) * p ≤ ((K : Int) + 1) * q ∧ ((K : Int) = 0 ∨ (K : Int) * q < (n : Int) * p) := by
  have m1 : 0 ≤ (n : Int) * p := Int.mul_nonneg (by omega) hp.1
  have m2 : (n : Int) * p ≤ n * q := Int.mul_le_mul_of_nonneg_left hp.2 (by omega)
  obtain ⟨D, hD⟩ : ∃ D, ((n : Int) * p + q - 1) / q = D := ⟨_, rfl⟩
  have e := Int.emod_add_mul_ediv ((n : Int) * p + q - 1) q
  have a1 := Int.emod_nonneg ((n : Int) * p + q - 1) (show q ≠ 0 by omega)
  have a2 := Int.emod_lt_of_pos ((n : Int) * p + q - 1) (show 0 < q by omega)
  rw [hD] at e ⊢
  have d0 : 0 ≤ D := by rw [← hD]; exact Int.ediv_nonneg (by omega) (by omega)
  have dn : D ≤ n := by
    rcases Int.lt_or_le n D with h | h
    · have := Int.mul_le_mul_of_nonneg_left (show (n : Int) + 1 ≤ D by omega) (show 0 ≤ q by omega)
      rw [Int.mul_add, Int.mul_one, Int.mul_comm q n] at this
      omega
    · exact h
  rcases Int.lt_or_le D 1 with h | h
  · refine ⟨0, by omega, h0, ?_, .inl rfl⟩
    have : D = 0 := by omega
    subst this
    simp at e ⊢
    omega
  · obtain ⟨K, hK⟩ := Int.eq_ofNat_of_zero_le (show 0 ≤ D - 1 by omega)
    refine ⟨K, by omega, by omega, ?_, ?_⟩
    · rw [show (K : Int) + 1 = D by omega, Int.mul_comm D q]; omega
    · right
      rw [show (K : Int) = D - 1 by omega, Int.sub_mul, Int.one_mul, Int.mul_comm D q]; omega
/-- Going away from the midst: a step of s. -/
theorem far_stp (c : Int) (l : List Int) : far (c + 1) l - far c l = (l.length : Int) - 2 * cnt (c + 1) l := by
  induction l with
  | nil => simp [far, cnt]
  | cons x l ih =>
    simp only [far, cnt, List.length_cons]
    have : dist x (c + 1) - dist x c = 1 - 2 * (if c + 1 ≤ x then 1 else 0) := by unfold dist; split <;> split <;> split <;> omega
    omega
theorem far_up (m : Int) (l : List Int) (h : 2 * cnt (m + 1) l ≤ l.length) : ∀ k : Nat, far m l ≤ far (m + k) l := by
  intro k
  induction k with
  | zero => simp
  | succ k ih =>
    have := far_stp (m + k) l
    have c := cnt_anti (show m + 1 ≤ m + k + 1 by omega) l
    rw [show m + ((k + 1 : Nat) : Int) = m + k + 1 by omega]
    omega
theorem far_down (m : Int) (l : List Int) (h : (l.length : Int) ≤ 2 * cnt m l) : ∀ k : Nat, far m l ≤ far (m - k) l := by
  intro k
  induction k with
  | zero => simp
  | succ k ih =>
    have := far_stp (m - k - 1) l
    rw [show m - (k : Int) - 1 + 1 = m - k by omega] at this
    have c := cnt_anti (show m - k ≤ m by omega) l
    rw [show m - ((k + 1 : Nat) : Int) = m - k - 1 by omega]
    omega
theorem far_min (m y : Int) (l : List Int) (h1 : 2 * cnt (m + 1) l ≤ l.length) (h2 : (l.length : Int) ≤ 2 * cnt m l) : far m l ≤ far y l := by
  rcases Int.le_total m y with h | h
  · obtain ⟨k, hk⟩ := Int.eq_ofNat_of_zero_le (show 0 ≤ y - m by omega)
    have := far_up m l h1 k
    rwa [show m + (k : Int) = y by omega] at this
  · obtain ⟨k, hk⟩ := Int.eq_ofNat_of_zero_le (show 0 ≤ m - y by omega)
    have := far_down m l h2 k
    rwa [show m - (k : Int) = y by omega] at this

end Go.Proofs.Ytlnagfmaiabhaaa

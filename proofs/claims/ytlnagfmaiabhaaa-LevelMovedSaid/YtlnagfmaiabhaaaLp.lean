/-
  Plain facts on levels: how often a number can be doubled up to another one. No Go in sight.
-/
import Derived.Test.YtlnagfmaiabhaaaW4
import Derived.Test.YtlnagfmaiabhaaaP0
import Derived.Test.YtlnagfmaiabhaaaP1
set_option linter.unusedSimpArgs false
set_option linter.unusedVariables false
namespace Go.Proofs.Ytlnagfmaiabhaaa

theorem pow_le {i j : Nat} (h : i ≤ j) : (2 : Int) ^ i ≤ 2 ^ j := by
  rcases Nat.lt_or_eq_of_le h with q | q
  · have := pow_lt_pow q; have := p2 i; omega
  · rw [q]; exact Int.le_refl _
/-- The level: N doubled k times is no more than N and D D; doubled once more it is more. -/
def LevR (N D k : Int) : Prop := 0 ≤ k ∧ k ≤ 126 ∧ N * 2 ^ k.toNat ≤ N + D * D ∧ N + D * D < N * 2 ^ (k + 1).toNat
/-- What the spread is at least. -/
def lfl (n X L : Int) : Int := if X < n * n * L * L then n * n * L * L else X
/-- How late. -/
def late0 (n S T : Int) : Int := if 0 < n * T - S then n * T - S else 0

theorem lfl_bd {n X L : Int} (hn : 1 ≤ n ∧ n ≤ 64) (hX : 0 ≤ X ∧ X ≤ 1152921504606846976) (hL : 1 ≤ L ∧ L ≤ 16777216) : 1 ≤ lfl n X L ∧ lfl n X L ≤ 1152921504606846976 := by
  have a := mul_bd (a := n) (b := n) (A := 64) (B := 64) (by omega) (by omega)
  have b := mul_bd a (b := L) (B := 16777216) (by omega)
  have c := mul_bd b (b := L) (B := 16777216) (by omega)
  have d : 1 ≤ n * n * L * L := by
    have e1 : 1 * 1 ≤ n * n := Int.mul_le_mul hn.1 hn.1 (by omega) (by omega)
    have e2 : 1 * 1 ≤ n * n * L := Int.mul_le_mul e1 hL.1 (by omega) (by omega)
    have e3 : 1 * 1 ≤ n * n * L * L := Int.mul_le_mul e2 hL.1 (by omega) (by omega)
    omega
  unfold lfl; split <;> omega
theorem late0_bd {n S T : Int} (hn : 1 ≤ n ∧ n ≤ 64) (hS : 0 ≤ S) (hT : 0 ≤ T ∧ T ≤ 1073741824) : 0 ≤ late0 n S T ∧ late0 n S T ≤ 68719476736 := by
  have a := mul_bd (a := n) (b := T) (A := 64) (B := 1073741824) (by omega) (by omega)
  unfold late0; split <;> omega
theorem levR_ex {N D : Int} (hN : 1 ≤ N ∧ N ≤ 1152921504606846976) (hD : 0 ≤ D ∧ D ≤ 68719476736) : ∃ k, LevR N D k := by
  have dd := mul_bd hD hD
  have ua : U128 (N + D * D) := by unfold U128; omega
  have ub : U128 N := by unfold U128; omega
  obtain ⟨k, e, h⟩ := halvR_ex ua ub
  rcases h with ⟨h, _⟩ | ⟨_, h, _⟩ | ⟨h1, h2, h3, h4, h5, _⟩
  · omega
  · omega
  · refine ⟨k, h2, ?_, h4, h5⟩
    by_cases c : k ≤ 126
    · exact c
    · obtain rfl : k = 127 := by omega
      have : N * 170141183460469231731687303715884105728 ≤ N + D * D := h4
      omega
theorem LevR.mono {N D D' k k' : Int} (hN : 1 ≤ N) (h0 : 0 ≤ D) (h : LevR N D k) (h' : LevR N D' k') (hD : D ≤ D') : k ≤ k' := by
  obtain ⟨a1, a2, a3, a4⟩ := h
  obtain ⟨b1, b2, b3, b4⟩ := h'
  have dd : D * D ≤ D' * D' := Int.mul_le_mul hD hD h0 (by omega)
  rcases Int.lt_or_le k' k with c | c
  · have e : (k' + 1).toNat ≤ k.toNat := by omega
    have p : (2 : Int) ^ (k' + 1).toNat ≤ 2 ^ k.toNat := by
      exact pow_le e
    have q := Int.mul_le_mul_of_nonneg_left p (show 0 ≤ N by omega)
    omega
  · exact c
theorem LevR.same {N D k k' : Int} (hN : 1 ≤ N) (h0 : 0 ≤ D) (h : LevR N D k) (h' : LevR N D k') : k = k' := by
  have := h.mono hN h0 h' (Int.le_refl _)
  have := h'.mono hN h0 h (Int.le_refl _)
  omega
/-- By a greater floor it is no more. -/
theorem LevR.anti {N N' D k k' : Int} (hN : 1 ≤ N) (hNN : N ≤ N') (h : LevR N D k) (h' : LevR N' D k') : k' ≤ k := by
  obtain ⟨a1, a2, a3, a4⟩ := h
  obtain ⟨b1, b2, b3, b4⟩ := h'
  rcases Int.lt_or_le k k' with c | c
  · have e : (k + 1).toNat ≤ k'.toNat := by omega
    have p : (2 : Int) ^ (k + 1).toNat ≤ 2 ^ k'.toNat := by
      exact pow_le e
    have p1 := p2 (k + 1).toNat
    -- N' (2^k' - 1) <= D D < N (2^(k+1) - 1) <= N' (2^k' - 1)
    have q1 : N' * 2 ^ k'.toNat - N' = N' * (2 ^ k'.toNat - 1) := by rw [Int.mul_sub, Int.mul_one]
    have q2 : N * 2 ^ (k + 1).toNat - N = N * (2 ^ (k + 1).toNat - 1) := by rw [Int.mul_sub, Int.mul_one]
    have q3 : N * (2 ^ (k + 1).toNat - 1) ≤ N' * (2 ^ k'.toNat - 1) := Int.mul_le_mul hNN (by omega) (by omega) (by omega)
    omega
  · exact c
/-- At least theta just if the sum is at least N doubled so often. -/
theorem LevR.ge {N D k t : Int} (hN : 1 ≤ N) (h : LevR N D k) (ht : 0 ≤ t) : t ≤ k ↔ N * 2 ^ t.toNat ≤ N + D * D := by
  obtain ⟨a1, a2, a3, a4⟩ := h
  constructor
  · intro c
    have p : (2 : Int) ^ t.toNat ≤ 2 ^ k.toNat := by
      exact pow_le (show t.toNat ≤ k.toNat by omega)
    have q := Int.mul_le_mul_of_nonneg_left p (show 0 ≤ N by omega)
    omega
  · intro c
    rcases Int.lt_or_le k t with q | q
    · have p : (2 : Int) ^ (k + 1).toNat ≤ 2 ^ t.toNat := by
        exact pow_le (show (k + 1).toNat ≤ t.toNat by omega)
      have q := Int.mul_le_mul_of_nonneg_left p (show 0 ≤ N by omega)
      omega
    · exact q
/-- All of it times the same number. -/
theorem LevR.scale {N D k c : Int} (hc : 1 ≤ c) (h : LevR N D k) : LevR (N * (c * c)) (D * c) k := by
  obtain ⟨a1, a2, a3, a4⟩ := h
  have cc : 0 < c * c := Int.mul_pos (by omega) (by omega)
  have e : N * (c * c) + D * c * (D * c) = (N + D * D) * (c * c) := by grind
  refine ⟨a1, a2, ?_, ?_⟩
  · rw [e, show N * (c * c) * 2 ^ k.toNat = N * 2 ^ k.toNat * (c * c) by grind]
    exact Int.mul_le_mul_of_nonneg_right a3 (by omega)
  · rw [e, show N * (c * c) * 2 ^ (k + 1).toNat = N * 2 ^ (k + 1).toNat * (c * c) by grind]
    exact Int.mul_lt_mul_of_pos_right a4 cc
end Go.Proofs.Ytlnagfmaiabhaaa

/-
  Plain arithmetic of Knuth's division: one digit of 32 bits of a quotient, guessed from above. No Go in sight.
-/
import Derived.Test.YtlnagfmaiabhaaaWS
import Derived.Test.YtlnagfmaiabhaaaP1
set_option linter.unusedSimpArgs false
set_option linter.unusedVariables false
namespace Go.Proofs.Ytlnagfmaiabhaaa

/-- The guess q with its rest r: no less than the digit t. -/
def KnR (u y1 t q r : Int) : Prop := t ≤ q ∧ 0 ≤ t ∧ q * y1 + r = u ∧ 0 ≤ r ∧ 0 ≤ q ∧ q ≤ 4294967297

section
variable {u d y y1 y0 t : Int}
theorem kn_digit (hy : y1 * 4294967296 + y0 = y) (h1 : 2147483648 ≤ y1) (h0 : 0 ≤ y0) (hu : 0 ≤ u ∧ u < y) (hd : 0 ≤ d ∧ d < 4294967296) (ht : (u * 4294967296 + d) / y = t) :
    0 ≤ t ∧ t < 4294967296 ∧ t * y ≤ u * 4294967296 + d ∧ u * 4294967296 + d < t * y + y := by
  have py : 0 < y := by omega
  have a := Int.emod_add_mul_ediv (u * 4294967296 + d) y
  have b := Int.emod_nonneg (u * 4294967296 + d) (show y ≠ 0 by omega)
  have c := Int.emod_lt_of_pos (u * 4294967296 + d) py
  rw [ht, Int.mul_comm y t] at a
  have e : 0 ≤ t := by rw [← ht]; exact Int.ediv_nonneg (by omega) (by omega)
  have f : t < 4294967296 := by rw [← ht]; exact Int.ediv_lt_of_lt_mul py (by omega)
  refine ⟨e, f, by omega, by omega⟩

theorem kn_start (hy : y1 * 4294967296 + y0 = y) (h1 : 2147483648 ≤ y1 ∧ y1 < 4294967296) (h0 : 0 ≤ y0 ∧ y0 < 4294967296) (hu : 0 ≤ u ∧ u < y) (hd : 0 ≤ d ∧ d < 4294967296) (ht : (u * 4294967296 + d) / y = t) :
    KnR u y1 t (u / y1) (u - u / y1 * y1) ∧ u - u / y1 * y1 < 4294967296 := by
  obtain ⟨t0, t1, t2, t3⟩ := kn_digit hy h1.1 h0.1 hu hd ht
  have a := Int.emod_add_mul_ediv u y1
  have b := Int.emod_nonneg u (show y1 ≠ 0 by omega)
  have c := Int.emod_lt_of_pos u (show 0 < y1 by omega)
  rw [Int.mul_comm] at a
  have e : 0 ≤ u / y1 := Int.ediv_nonneg hu.1 (by omega)
  have k : t * y1 ≤ u := by
    have e1 : t * y = t * y1 * 4294967296 + t * y0 := by rw [← hy]; grind
    have e2 : 0 ≤ t * y0 := Int.mul_nonneg t0 h0.1
    omega
  have f : t ≤ u / y1 := Int.le_ediv_of_mul_le (by omega) k
  have g : u / y1 ≤ 4294967297 := by
    have : u / y1 < 4294967298 := Int.ediv_lt_of_lt_mul (by omega) (by omega)
    omega
  exact ⟨⟨f, t0, by omega, by omega, e, g⟩, by omega⟩

theorem kn_more {q r : Int} (hy : y1 * 4294967296 + y0 = y) (h1 : 2147483648 ≤ y1) (h0 : 0 ≤ y0) (hu : 0 ≤ u ∧ u < y) (hd : 0 ≤ d ∧ d < 4294967296) (ht : (u * 4294967296 + d) / y = t)
    (h : KnR u y1 t q r) (hm : 4294967296 ≤ q ∨ 4294967296 * r + d < q * y0) : KnR u y1 t (q - 1) (r + y1) := by
  obtain ⟨t0, t1, t2, t3⟩ := kn_digit hy h1 h0 hu hd ht
  obtain ⟨a, _, b, c, e, f⟩ := h
  have k : t < q := by
    rcases hm with hm | hm
    · omega
    · rcases Int.lt_or_le t q with g | g
      · exact g
      · obtain rfl : q = t := by omega
        have e1 : q * y = q * y1 * 4294967296 + q * y0 := by rw [← hy]; grind
        omega
  refine ⟨by omega, t0, ?_, by omega, by omega, by omega⟩
  rw [Int.sub_mul]; omega

theorem kn_exit {q r : Int} (hy : y1 * 4294967296 + y0 = y) (h1 : 2147483648 ≤ y1) (h0 : 0 ≤ y0) (hu : 0 ≤ u ∧ u < y) (hd : 0 ≤ d ∧ d < 4294967296) (ht : (u * 4294967296 + d) / y = t)
    (h : KnR u y1 t q r) (hm : q * y0 ≤ 4294967296 * r + d) : q = t := by
  obtain ⟨t0, t1, t2, t3⟩ := kn_digit hy h1 h0 hu hd ht
  obtain ⟨a, _, b, c, e, f⟩ := h
  have e1 : q * y = q * y1 * 4294967296 + q * y0 := by rw [← hy]; grind
  have k : q ≤ t := by
    rw [← ht]
    exact Int.le_ediv_of_mul_le (by omega) (by omega)
  omega

theorem kn_break {q r : Int} (hy : y1 * 4294967296 + y0 = y) (h1 : 2147483648 ≤ y1) (h0 : 0 ≤ y0 ∧ y0 < 4294967296) (hu : 0 ≤ u ∧ u < y) (hd : 0 ≤ d ∧ d < 4294967296) (ht : (u * 4294967296 + d) / y = t)
    (h : KnR u y1 t q r) (hq : q ≤ 4294967296) (hr : 4294967296 ≤ r) : q = t := by
  refine kn_exit hy h1 h0.1 hu hd ht h ?_
  have : q * y0 ≤ 4294967296 * y0 := Int.mul_le_mul_of_nonneg_right hq h0.1
  omega
end
/-- Two digits together. -/
theorem kn_two {N y u d1 d0 a b v : Int} (py : 0 < y) (hN : N = u * 18446744073709551616 + d1 * 4294967296 + d0) (ha : (u * 4294967296 + d1) / y = a) (hv : u * 4294967296 + d1 - a * y = v) (hb : (v * 4294967296 + d0) / y = b) :
    N / y = a * 4294967296 + b ∧ N % y = v * 4294967296 + d0 - b * y := by
  have m := Int.emod_add_mul_ediv (v * 4294967296 + d0) y
  have c := Int.emod_nonneg (v * 4294967296 + d0) (show y ≠ 0 by omega)
  have e := Int.emod_lt_of_pos (v * 4294967296 + d0) py
  rw [hb] at m
  obtain ⟨r, hr⟩ : ∃ r, (v * 4294967296 + d0) % y = r := ⟨_, rfl⟩
  rw [hr] at m c e
  have k : N = r + y * (a * 4294967296 + b) := by
    rw [hN, Int.mul_add]
    have : y * (a * 4294967296) = a * y * 4294967296 := by grind
    omega
  have q1 : N / y = a * 4294967296 + b := by
    rw [k, Int.add_mul_ediv_left _ _ (by omega), Int.ediv_eq_zero_of_lt c e]; omega
  have q2 : N % y = r := by
    rw [k, Int.add_mul_emod_self_left, Int.emod_eq_of_lt c e]
  refine ⟨q1, ?_⟩
  rw [q2, Int.mul_comm b y]; omega
/-- Scaled by 2^s, the quotient is the same, and the rest as many times as great. -/
theorem kn_scale {N y p : Int} (hp : 0 < p) : N * p / (y * p) = N / y ∧ N * p % (y * p) / p = N % y := by
  have a := Int.mul_ediv_mul_of_pos_left N y hp
  refine ⟨a, ?_⟩
  have b : N * p % (y * p) = N % y * p := by
    rw [Int.emod_def, a, Int.emod_def, Int.sub_mul]; grind
  rw [b, Int.mul_ediv_cancel _ (by omega)]
end Go.Proofs.Ytlnagfmaiabhaaa

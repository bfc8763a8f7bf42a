/-
  Plain arithmetic: the number of bits of a number of 128 bits. No Go in sight.
-/
import Derived.Test.YtpomdnglknbanaaW0
import Derived.Lib.BitFns
import Derived.Lib.ItoaNum
set_option linter.unusedSimpArgs false
set_option linter.unusedVariables false
namespace Go.Proofs.Ytpomdnglknbanaa

/-- The bits of a number of 128 bits. -/
def blen (a : Int) : Int := if 0 < hi a then 64 + (Lib.bitLen (hi a).toNat : Int) else (Lib.bitLen (lo a).toNat : Int)
theorem blen_hi {a : Int} (h : 0 < hi a) : 64 + (Lib.bitLen (hi a).toNat : Int) = blen a := by rw [blen, if_pos h]
theorem blen_lo {a : Int} (h : ¬ 0 < hi a) : (Lib.bitLen (lo a).toNat : Int) = blen a := by rw [blen, if_neg h]

theorem bitLen_bounds (x : Nat) (h : x < 18446744073709551616) (h0 : x ≠ 0) : ∃ k : Nat, Lib.bitLen x = k + 1 ∧ 2 ^ k ≤ x ∧ x < 2 ^ (k + 1) := by
  obtain ⟨h1, h2, h3⟩ := Lib.bitLenAux_bounds 64 x h h0
  refine ⟨Lib.bitLenAux 64 x - 1, ?_, h2, ?_⟩
  · unfold Lib.bitLen; omega
  · rw [show Lib.bitLenAux 64 x - 1 + 1 = Lib.bitLenAux 64 x from by omega]; exact h3

theorem blen_zero : blen 0 = 0 := by decide
theorem pow_cast (k : Nat) : ((2 ^ k : Nat) : Int) = 2 ^ k := by rw [Int.natCast_pow]; rfl
theorem p2 (k : Nat) : (0 : Int) < 2 ^ k := by rw [← pow_cast]; exact Int.ofNat_lt.2 (Nat.two_pow_pos k)
theorem blen_pos {a : Int} (ha : U128 a) (h : 0 < a) : ∃ k : Nat, blen a = k + 1 ∧ 2 ^ k ≤ a ∧ a < 2 ^ (k + 1) := by
  by_cases c : 0 < hi a
  · have b1 : (hi a).toNat < 18446744073709551616 := by unfold U128 hi at *; omega
    obtain ⟨k, e, l, u⟩ := bitLen_bounds _ b1 (by omega)
    refine ⟨64 + k, by rw [← blen_hi c, e]; omega, ?_, ?_⟩
    · rw [Int.pow_add, ← pow_cast k, show (2 : Int) ^ 64 = 18446744073709551616 from rfl]
      generalize 2 ^ k = z at *
      unfold hi at *; omega
    · rw [show 64 + k + 1 = 64 + (k + 1) from by omega, Int.pow_add, ← pow_cast (k + 1), show (2 : Int) ^ 64 = 18446744073709551616 from rfl]
      generalize 2 ^ (k + 1) = z at *
      unfold hi at *; omega
  · have e0 : lo a = a := by unfold U128 hi lo at *; omega
    have b1 : (lo a).toNat < 18446744073709551616 := by unfold lo at *; omega
    obtain ⟨k, e, l, u⟩ := bitLen_bounds _ b1 (by omega)
    refine ⟨k, by rw [← blen_lo c, e]; omega, ?_, ?_⟩
    · rw [← pow_cast k]
      generalize 2 ^ k = z at *
      omega
    · rw [← pow_cast (k + 1)]
      generalize 2 ^ (k + 1) = z at *
      omega
theorem blen_bd {a : Int} (ha : U128 a) : 0 ≤ blen a ∧ blen a ≤ 128 := by
  by_cases c : 0 < hi a
  · have b1 : (hi a).toNat < 2 ^ 64 := by unfold U128 hi at *; omega
    have := Lib.bitLen_le _ 64 (by omega) b1
    rw [← blen_hi c]; omega
  · have b1 : (lo a).toNat < 2 ^ 64 := by unfold lo at *; omega
    have := Lib.bitLen_le _ 64 (by omega) b1
    rw [← blen_lo c]; omega
theorem pow_lt_pow {i j : Nat} (h : i < j) : (2 : Int) ^ i * 2 ≤ 2 ^ j := by
  obtain ⟨d, rfl⟩ : ∃ d, j = i + 1 + d := ⟨j - i - 1, by omega⟩
  rw [Int.pow_add, Int.pow_succ]
  have h1 : (1 : Int) ≤ 2 ^ d := p2 d
  have h2 : (0 : Int) ≤ 2 ^ i * 2 := by have := p2 i; omega
  calc (2 : Int) ^ i * 2 = 2 ^ i * 2 * 1 := by omega
    _ ≤ 2 ^ i * 2 * 2 ^ d := Int.mul_le_mul_of_nonneg_left h1 h2
/-- A number of k + 1 bits. -/
theorem blen_uniq {a : Int} (ha : U128 a) {k : Nat} (h1 : 2 ^ k ≤ a) (h2 : a < 2 ^ (k + 1)) : blen a = k + 1 := by
  have hp := p2 k
  obtain ⟨j, e, l, u⟩ := blen_pos ha (by omega)
  rw [e]
  rw [Int.pow_succ] at h2 u
  rcases Nat.lt_trichotomy j k with h | h | h
  · have := pow_lt_pow h; omega
  · omega
  · have := pow_lt_pow h; omega
/-- A shift fits just if the bits do. -/
theorem shift_fits {a n : Int} (ha : U128 a) (h : 0 < a) (h0 : 0 ≤ n) : U128 (a * 2 ^ n.toNat) ↔ blen a + n ≤ 128 := by
  obtain ⟨k, e, l, u⟩ := blen_pos ha h
  obtain ⟨m, rfl⟩ := Int.eq_ofNat_of_zero_le h0
  rw [e, show ((m : Int)).toNat = m from rfl]
  have hm : (1 : Int) ≤ 2 ^ m := p2 m
  have p128 : (340282366920938463463374607431768211456 : Int) = 2 ^ 128 := rfl
  constructor
  · intro hu
    rcases Nat.lt_or_ge (k + m) 128 with c | c
    · omega
    · exfalso
      have h1 : (2 : Int) ^ 128 ≤ 2 ^ (k + m) := by
        rcases Nat.lt_or_ge 128 (k + m) with c' | c'
        · have := pow_lt_pow c'
          have h2 := p2 128
          omega
        · rw [show k + m = 128 from by omega]; exact Int.le_refl _
      rw [Int.pow_add] at h1
      have h2 : (2 : Int) ^ k * 2 ^ m ≤ a * 2 ^ m := Int.mul_le_mul_of_nonneg_right l (by omega)
      have := hu.2
      rw [p128] at this
      exact absurd (Int.lt_of_le_of_lt (Int.le_trans h1 h2) this) (Int.lt_irrefl _)
  · intro hle
    refine ⟨Int.mul_nonneg ha.1 (by omega), ?_⟩
    rw [p128]
    have h2 : a * 2 ^ m < 2 ^ (k + 1) * 2 ^ m := Int.mul_lt_mul_of_pos_right u (by omega)
    rw [← Int.pow_add] at h2
    rcases Nat.lt_or_ge (k + 1 + m) 128 with c | c
    · have := pow_lt_pow c
      have h3 := p2 (k + 1 + m)
      have h4 : (2 : Int) ^ (k + 1 + m) ≤ 2 ^ 128 := Int.le_trans (by omega) this
      exact Int.lt_of_lt_of_le h2 h4
    · rwa [show k + 1 + m = 128 from by omega] at h2
end Go.Proofs.Ytpomdnglknbanaa

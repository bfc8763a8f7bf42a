/-
  Plain facts on powers: Bernoulli's inequality; how often a power can be halved. No Go in sight.
-/
import Derived.Test.YtgiipelonojgaaaWS
import Derived.Test.YtgiipelonojgaaaWB
set_option linter.unusedSimpArgs false
set_option linter.unusedVariables false
namespace Go.Proofs.Ytgiipelonojgaaa

theorem ipow_le {a b : Int} (h0 : 0 ≤ a) (h : a ≤ b) (n : Nat) : a ^ n ≤ b ^ n ∧ 0 ≤ a ^ n := by
  induction n with
  | zero => simp
  | succ n ih =>
    rw [Int.pow_succ, Int.pow_succ]
    exact ⟨Int.mul_le_mul ih.1 h h0 (by omega), Int.mul_nonneg ih.2 h0⟩
theorem bernoulli {x : Int} (h : 0 ≤ x) (n : Nat) : 1 + n * x ≤ (1 + x) ^ n := by
  induction n with
  | zero => simp
  | succ n ih =>
    rw [Int.pow_succ]
    have a := Int.mul_le_mul_of_nonneg_right ih (show 0 ≤ 1 + x by omega)
    have b : (1 + n * x) * (1 + x) = 1 + n * x + x + n * x * x := by grind
    have c : 0 ≤ n * x * x := Int.mul_nonneg (Int.mul_nonneg (by omega) h) h
    rw [Int.natCast_add, Int.add_mul]
    omega
theorem le_of_pow_lt {i j : Nat} (h : (2 : Int) ^ i < 2 ^ j) : i < j := by
  rcases Nat.lt_or_ge i j with c | c
  · exact c
  · rcases Nat.lt_or_eq_of_le c with d | d
    · have := pow_lt_pow d; have := p2 j; omega
    · subst d; omega
theorem pow_two_mul (i n : Nat) : ((2 : Int) ^ i) ^ n = 2 ^ (n * i) := by rw [← Int.pow_mul, Nat.mul_comm]
theorem log_pow {b p : Int} {i j n : Nat} (hb : 2 ^ i ≤ b ∧ b < 2 ^ (i + 1)) (hp : b ^ n = p) (hj : 2 ^ j ≤ p ∧ p < 2 ^ (j + 1)) : n * i ≤ j ∧ j ≤ n * (i + 1) := by
  have p1 := p2 i
  have a := (ipow_le (by omega) hb.1 n).1
  have b := (ipow_le (by omega) (Int.le_of_lt hb.2) n).1
  rw [pow_two_mul, hp] at a b
  constructor
  · have := le_of_pow_lt (i := n * i) (j := j + 1) (by omega); omega
  · rcases Nat.lt_or_ge (n * (i + 1)) j with c | c
    · have := pow_lt_pow c; have := p2 (n * (i + 1)); omega
    · exact c
theorem pow_thousand {b : Int} (h : 1 ≤ b ∧ b ≤ 1000) {n : Nat} (hn : n ≤ 11) : 1 ≤ b ^ n ∧ b ^ n ≤ 1000 ^ 11 := by
  have a := (ipow_le (by omega) h.1 n).1
  have c := (ipow_le (by omega) h.2 n).1
  rw [Int.one_pow] at a
  refine ⟨a, Int.le_trans c ?_⟩
  have : ∀ m : Nat, m ≤ 11 → (1000 : Int) ^ m ≤ 1000 ^ 11 := by decide
  exact this n hn
end Go.Proofs.Ytgiipelonojgaaa

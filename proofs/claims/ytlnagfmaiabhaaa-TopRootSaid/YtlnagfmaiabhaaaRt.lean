/-
  Plain arithmetic of roots: Newton's steps from above. No Go in sight.
-/
import Derived.Test.YtlnagfmaiabhaaaP1
import Derived.Test.YtlnagfmaiabhaaaWB
set_option linter.unusedSimpArgs false
set_option linter.unusedVariables false
namespace Go.Proofs.Ytlnagfmaiabhaaa

/-- s is the root of a, rounded down. -/
def IsRoot (a s : Int) : Prop := 0 ≤ s ∧ s * s ≤ a ∧ a < (s + 1) * (s + 1)
theorem sq_lt_of {a b : Int} (h0 : 0 ≤ b) (h : a * a < b * b) : a < b := by
  rcases Int.lt_or_le a b with c | c
  · exact c
  · have := Int.mul_le_mul c c h0 (by omega); omega
theorem sq_le_of {a b : Int} (h0 : 0 ≤ b) (h : a * a ≤ b * b) : a ≤ b := by
  rcases Int.lt_or_le b a with c | c
  · have h1 : b * b < a * a := by
      have e1 : b * b ≤ b * a := Int.mul_le_mul_of_nonneg_left (by omega) h0
      have e2 : b * a < a * a := Int.mul_lt_mul_of_pos_right c (by omega)
      omega
    omega
  · exact c
theorem isRoot_uniq {a s t : Int} (h : IsRoot a s) (h' : IsRoot a t) : s = t := by
  obtain ⟨a1, a2, a3⟩ := h
  obtain ⟨b1, b2, b3⟩ := h'
  have c1 : s < t + 1 := sq_lt_of (by omega) (by omega)
  have c2 : t < s + 1 := sq_lt_of (by omega) (by omega)
  omega
theorem isRoot_mono {a b s t : Int} (h : IsRoot a s) (h' : IsRoot b t) (hab : a ≤ b) : s ≤ t := by
  obtain ⟨a1, a2, a3⟩ := h
  obtain ⟨b1, b2, b3⟩ := h'
  have c1 : s < t + 1 := sq_lt_of (by omega) (by omega)
  omega
theorem isRoot_sq {n : Int} (h : 0 ≤ n) : IsRoot (n * n) n := by
  refine ⟨h, Int.le_refl _, ?_⟩
  rw [Int.mul_add, Int.add_mul]; omega
/-- There is one. -/
theorem isRoot_ex (a : Int) (h : 0 ≤ a) : ∃ s, IsRoot a s := by
  obtain ⟨k, rfl⟩ := Int.eq_ofNat_of_zero_le h
  clear h
  induction k with
  | zero => exact ⟨0, by unfold IsRoot; omega⟩
  | succ k ih =>
    obtain ⟨s, s0, s1, s2⟩ := ih
    by_cases c : ((k + 1 : Nat) : Int) < (s + 1) * (s + 1)
    · exact ⟨s, s0, by omega, c⟩
    · refine ⟨s + 1, by omega, by omega, ?_⟩
      have e : (s + 1 + 1) * (s + 1 + 1) = (s + 1) * (s + 1) + 2 * s + 3 := by grind
      omega
theorem isRoot_small {a : Int} (h : 0 ≤ a) (h1 : a < 2) : IsRoot a a := by
  rcases (by omega : a = 0 ∨ a = 1) with rfl | rfl
  · unfold IsRoot; omega
  · unfold IsRoot; omega
/-- What Newton's step leaves is no less than the root. -/
theorem newton_ge {a s x q : Int} (h : IsRoot a s) (hx : 1 ≤ x) (hq : a / x = q) : s ≤ (q + x) / 2 := by
  obtain ⟨s0, s1, _⟩ := h
  have a0 : 0 ≤ a := Int.le_trans (Int.mul_nonneg s0 s0) s1
  have q0 : 0 ≤ q := by rw [← hq]; exact Int.ediv_nonneg a0 (by omega)
  have e1 : a < (q + 1) * x := by
    have := Int.lt_ediv_add_one_mul_self a (show 0 < x by omega)
    rwa [hq] at this
  have e2 : (q + 1 - x) * (q + 1 - x) ≥ 0 := sq_nonneg _
  have e3 : (q + 1 + x) * (q + 1 + x) = (q + 1 - x) * (q + 1 - x) + 4 * ((q + 1) * x) := by grind
  have e4 : (2 * s) * (2 * s) = 4 * (s * s) := by grind
  have e5 : 2 * s < q + 1 + x := sq_lt_of (by omega) (by omega)
  omega
/-- Where it does not fall it is the root. -/
theorem newton_end {a s x q : Int} (h : IsRoot a s) (hx : 1 ≤ x) (hs : s ≤ x) (hq : a / x = q) (he : x ≤ (q + x) / 2) : x = s := by
  have e1 : x ≤ q := by omega
  have e2 : q * x ≤ a := by rw [← hq]; exact Int.ediv_mul_le a (by omega)
  have e3 : x * x ≤ q * x := Int.mul_le_mul_of_nonneg_right e1 (by omega)
  obtain ⟨s0, s1, s2⟩ := h
  have : x < s + 1 := sq_lt_of (by omega) (by omega)
  omega
theorem isRoot_u64 {a s : Int} (h : IsRoot a s) (ha : U128 a) : s ≤ 18446744073709551615 := by
  obtain ⟨s0, s1, _⟩ := h
  unfold U128 at ha
  have : s < 18446744073709551616 := sq_lt_of (by omega) (by omega)
  omega
/-- The first guess. -/
theorem root_guess {a s : Int} (h : IsRoot a s) (ha : U128 a) (h2 : 1 ≤ a) : s ≤ 2 ^ ((blen a + 1) / 2).toNat := by
  obtain ⟨k, e, l, u⟩ := blen_pos ha (by omega)
  obtain ⟨s0, s1, _⟩ := h
  rw [e]
  obtain ⟨m, hm⟩ : ∃ m : Nat, (((k : Int) + 1 + 1) / 2).toNat = m := ⟨_, rfl⟩
  rw [hm]
  have hle : k + 1 ≤ m + m := by omega
  have p : (2 : Int) ^ (k + 1) ≤ 2 ^ m * 2 ^ m := by
    rw [← Int.pow_add]
    rcases Nat.lt_or_eq_of_le hle with q | q
    · have := pow_lt_pow q; have := p2 (k + 1); omega
    · rw [q]; exact Int.le_refl _
  have := p2 m
  have : s < 2 ^ m := sq_lt_of (by omega) (by omega)
  omega
end Go.Proofs.Ytlnagfmaiabhaaa

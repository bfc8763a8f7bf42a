/-
  Plain arithmetic of division bit by bit. No Go in sight.
-/
import Derived.Test.YtlnagfmaiabhaaaP1
import Derived.Test.YtlnagfmaiabhaaaWS
import Derived.Test.YtlnagfmaiabhaaaWB
set_option linter.unusedSimpArgs false
set_option linter.unusedVariables false
namespace Go.Proofs.Ytlnagfmaiabhaaa

/-- What is so ahead of the bit m - 1: q is the quotient so far, a what is left. -/
def DvR (a0 b : Int) (K m : Nat) (a q : Int) : Prop := q * b + a = a0 ∧ 0 ≤ a ∧ a < b * 2 ^ m ∧ 0 ≤ q ∧ q + 2 ^ m ≤ 2 ^ (K + 1) ∧ ∃ z, 0 ≤ z ∧ q = z * 2 ^ m
theorem dvR_start {a b : Int} (ha : U128 a) (hb : U128 b) (h : b ≤ a) (h1 : 1 ≤ b) {K : Nat} (hK : blen a - blen b = K) : DvR a b K (K + 1) a 0 := by
  obtain ⟨i, ei, li, ui⟩ := blen_pos ha (by omega)
  obtain ⟨j, ej, lj, uj⟩ := blen_pos hb (by omega)
  have e : i = j + K := by omega
  subst e
  refine ⟨by omega, by omega, ?_, Int.le_refl _, by omega, 0, Int.le_refl _, by omega⟩
  have p : (2 : Int) ^ (j + K + 1) = 2 ^ j * 2 ^ (K + 1) := by rw [← Int.pow_add]; rfl
  have q : (2 : Int) ^ j * 2 ^ (K + 1) ≤ b * 2 ^ (K + 1) := Int.mul_le_mul_of_nonneg_right lj (Int.le_of_lt (p2 _))
  omega
theorem dv_len {a b : Int} (ha : U128 a) (hb : U128 b) (h : b ≤ a) (h1 : 18446744073709551616 ≤ b) : ∃ K : Nat, blen a - blen b = K ∧ K ≤ 63 ∧ ∀ m : Nat, m ≤ K → U128 (b * 2 ^ m) := by
  obtain ⟨i, ei, li, ui⟩ := blen_pos ha (by omega)
  obtain ⟨j, ej, lj, uj⟩ := blen_pos hb (by omega)
  have bd := blen_bd ha
  have hj : 64 ≤ j := by
    rcases Nat.lt_or_ge j 64 with c | c
    · have : (2 : Int) ^ (j + 1) ≤ 2 ^ 64 := by
        rcases Nat.lt_or_eq_of_le (show j + 1 ≤ 64 by omega) with q | q
        · have := pow_lt_pow q; have := p2 (j + 1); omega
        · rw [q]; exact Int.le_refl _
      have e : (2 : Int) ^ 64 = 18446744073709551616 := rfl
      omega
    · exact c
  have hij : j ≤ i := by
    rcases Nat.lt_or_ge i j with c | c
    · have := pow_lt_pow (show i + 1 < j + 1 by omega)
      rw [Int.pow_succ 2 j] at this
      have := p2 j
      omega
    · exact c
  refine ⟨i - j, by omega, by omega, fun m hm => ?_⟩
  refine (shift_fits (n := m) hb (by omega) (by omega)).2 (by omega)
theorem dvR_yes {a0 b : Int} {K m : Nat} {a q : Int} (h : DvR a0 b K (m + 1) a q) (hc : b * 2 ^ m ≤ a) : DvR a0 b K m (a - b * 2 ^ m) (q + 2 ^ m) := by
  obtain ⟨h1, h2, h3, h4, h5, z, hz, h6⟩ := h
  have p := p2 m
  rw [Int.pow_succ] at h3 h5 h6
  have e1 : b * (2 ^ m * 2) = b * 2 ^ m * 2 := by grind
  refine ⟨?_, by omega, by omega, by omega, by omega, 2 * z + 1, by omega, ?_⟩
  · rw [Int.add_mul, Int.mul_comm (2 ^ m) b]; omega
  · rw [h6]; grind
theorem dvR_no {a0 b : Int} {K m : Nat} {a q : Int} (h : DvR a0 b K (m + 1) a q) (hc : a < b * 2 ^ m) : DvR a0 b K m a q := by
  obtain ⟨h1, h2, h3, h4, h5, z, hz, h6⟩ := h
  have p := p2 m
  rw [Int.pow_succ] at h3 h5 h6
  refine ⟨h1, h2, hc, h4, by omega, 2 * z, by omega, ?_⟩
  rw [h6]; grind
theorem dvR_end {a0 b : Int} {K : Nat} {a q : Int} (h : DvR a0 b K 0 a q) (hb : 1 ≤ b) : a0 / b = q ∧ a0 % b = a := by
  obtain ⟨h1, h2, h3, h4, h5, _⟩ := h
  rw [Int.pow_zero, Int.mul_one] at h3
  have e : a0 = a + b * q := by rw [Int.mul_comm b q]; omega
  refine ⟨?_, ?_⟩
  · rw [e, Int.add_mul_ediv_left _ _ (by omega), Int.ediv_eq_zero_of_lt h2 h3]; omega
  · rw [e, Int.add_mul_emod_self_left, Int.emod_eq_of_lt h2 h3]
theorem dv_bd {a0 b : Int} {K m : Nat} {a q : Int} (h : DvR a0 b K m a q) (hK : K ≤ 63) (h0 : 0 ≤ b) (hb : U128 a0) : U64 q ∧ U128 a ∧ q + 2 ^ m ≤ 18446744073709551616 := by
  obtain ⟨h1, h2, h3, h4, h5, _⟩ := h
  have p : (2 : Int) ^ (K + 1) ≤ 2 ^ 64 := by
    rcases Nat.lt_or_eq_of_le (show K + 1 ≤ 64 by omega) with q | q
    · have := pow_lt_pow q; have := p2 (K + 1); omega
    · rw [q]; exact Int.le_refl _
  have e : (2 : Int) ^ 64 = 18446744073709551616 := rfl
  have f := p2 m
  have g := Int.mul_nonneg h4 h0
  unfold U64 U128 at *
  omega
/-- One bit more. -/
theorem dv_or {a0 b : Int} {K m : Nat} {a q : Int} (h : DvR a0 b K (m + 1) a q) (hK : K ≤ 63) (h0 : 0 ≤ b) (hb : U128 a0) : bits .or .u64 q (2 ^ m) = q + 2 ^ m := by
  obtain ⟨u, _, v⟩ := dv_bd h hK h0 hb
  obtain ⟨h1, h2, h3, h4, h5, z, hz, h6⟩ := h
  obtain ⟨Z, rfl⟩ := Int.eq_ofNat_of_zero_le hz
  have p := p2 m
  have c : q = ((Z * 2 ^ (m + 1) : Nat) : Int) := by rw [h6, Int.natCast_mul, Int.natCast_pow]; rfl
  have d : (2 : Int) ^ m = ((2 ^ m : Nat) : Int) := (pow_cast m).symm
  rw [Int.pow_succ] at v
  unfold U64 at u
  rw [d] at v p ⊢
  rw [c] at u v ⊢
  rw [u64_or_nat _ _ (by omega) (by omega), or_add (Nat.pow_lt_pow_right (by omega) (by omega))]
  exact Int.natCast_add _ _
end Go.Proofs.Ytlnagfmaiabhaaa

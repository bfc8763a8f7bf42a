/-
  Plain arithmetic of shifts of numbers of 128 bits, by their halves. No Go in sight.
-/
import Derived.Test.YtpomdnglknbanaaW0
import Derived.Laws.BitsAllLaws
set_option linter.unusedSimpArgs false
set_option linter.unusedVariables false
namespace Go.Proofs.Ytpomdnglknbanaa

theorem two_split (n m : Nat) : (2 : Nat) ^ n * 2 ^ m = 2 ^ (n + m) := (Nat.pow_add 2 n m).symm
theorem or_add {n u v : Nat} (h : v < 2 ^ n) : (u * 2 ^ n) ||| v = u * 2 ^ n + v := by
  rw [Nat.mul_comm, Nat.two_pow_add_eq_or_of_lt h]

/-- Up, by halves: q · r = 2^64. -/
theorem up_parts {A L q r : Nat} (hq : 0 < q) (hr : 0 < r) (hqr : r * q = 18446744073709551616) (hL : L < 18446744073709551616) :
    A * q % 18446744073709551616 = A % r * q ∧ L / r < q ∧
    (A * 18446744073709551616 + L) * q % 340282366920938463463374607431768211456 / 18446744073709551616 = A % r * q + L / r ∧
    (A * 18446744073709551616 + L) * q % 340282366920938463463374607431768211456 % 18446744073709551616 = L * q % 18446744073709551616 := by
  have eA : A = r * (A / r) + A % r := (Nat.div_add_mod A r).symm
  have eL : L = r * (L / r) + L % r := (Nat.div_add_mod L r).symm
  have hA0 : A % r < r := Nat.mod_lt _ hr
  have hL0 : L % r < r := Nat.mod_lt _ hr
  have hL1 : L / r < q := Nat.div_lt_of_lt_mul (by omega)
  have mA : A * q = A / r * 18446744073709551616 + A % r * q := by
    rw [← hqr]; conv => lhs; rw [eA]
    rw [Nat.add_mul, Nat.mul_comm r (A / r), Nat.mul_assoc]
  have mL : L * q = L / r * 18446744073709551616 + L % r * q := by
    rw [← hqr]; conv => lhs; rw [eL]
    rw [Nat.add_mul, Nat.mul_comm r (L / r), Nat.mul_assoc]
  have bA : A % r * q + q ≤ 18446744073709551616 := by
    have := Nat.mul_le_mul_right q (Nat.succ_le_of_lt hA0)
    rw [Nat.succ_mul, hqr] at this; exact this
  have bL : L % r * q + q ≤ 18446744073709551616 := by
    have := Nat.mul_le_mul_right q (Nat.succ_le_of_lt hL0)
    rw [Nat.succ_mul, hqr] at this; exact this
  have e : (A * 18446744073709551616 + L) * q = A * q * 18446744073709551616 + L * q := by rw [Nat.add_mul, Nat.mul_right_comm]
  rw [e, mA, mL]
  generalize A % r * q = u at *
  generalize L % r * q = v at *
  generalize A / r = A1 at *
  generalize L / r = L1 at *
  refine ⟨by omega, hL1, by omega, by omega⟩

/-- Down, by halves. -/
theorem down_parts {A L q r : Nat} (hq : 0 < q) (hr : 0 < r) (hqr : q * r = 18446744073709551616) (hA : A < 18446744073709551616) (hL : L < 18446744073709551616) :
    A * r % 18446744073709551616 = A % q * r ∧ L / q < r ∧
    (A * 18446744073709551616 + L) / q / 18446744073709551616 = A / q ∧
    (A * 18446744073709551616 + L) / q % 18446744073709551616 = A % q * r + L / q := by
  have eA : A = q * (A / q) + A % q := (Nat.div_add_mod A q).symm
  have hA0 : A % q < q := Nat.mod_lt _ hq
  have hL1 : L / q < r := Nat.div_lt_of_lt_mul (by omega)
  have mA : A * r = A / q * 18446744073709551616 + A % q * r := by
    rw [← hqr]; conv => lhs; rw [eA]
    rw [Nat.add_mul, Nat.mul_comm q (A / q), Nat.mul_assoc]
  have bA : A % q * r + r ≤ 18446744073709551616 := by
    have := Nat.mul_le_mul_right r (Nat.succ_le_of_lt hA0)
    rw [Nat.succ_mul, hqr] at this; exact this
  have e : (A * 18446744073709551616 + L) / q = A * r + L / q := by
    rw [← hqr, show A * (q * r) + L = L + q * (A * r) from by rw [Nat.add_comm, Nat.mul_left_comm], Nat.add_mul_div_left _ _ hq, Nat.add_comm]
  rw [e, mA]
  generalize A % q * r = u at *
  generalize A / q = A1 at *
  generalize L / q = L1 at *
  clear eA hA0 e mA hqr hA hL hq hr
  refine ⟨by omega, hL1, by omega, by omega⟩

/-- What a shift up leaves, within 128 bits. -/
def up (a n : Int) : Int := a * 2 ^ n.toNat % 340282366920938463463374607431768211456
theorem up_u128 (a n : Int) : U128 (up a n) := by unfold U128 up; generalize a * 2 ^ n.toNat = x; omega
theorem up_fits {a n : Int} (h : U128 (a * 2 ^ n.toNat)) : up a n = a * 2 ^ n.toNat := by
  unfold U128 at h; unfold up; generalize a * 2 ^ n.toNat = x at *; omega

theorem halves {a : Int} (ha : U128 a) : ∃ A L : Nat, hi a = A ∧ lo a = L ∧ A < 18446744073709551616 ∧ L < 18446744073709551616 ∧ a = ((A * 18446744073709551616 + L : Nat) : Int) :=
  ⟨(hi a).toNat, (lo a).toNat, by unfold U128 hi lo at *; omega⟩

theorem up_small_halves {a n : Int} (ha : U128 a) (h : 0 ≤ n) (h1 : n < 64) :
    bits .or .u64 (IntKind.u64.wrap (hi a * 2 ^ n.toNat)) (lo a / 2 ^ (64 - n).toNat) = hi (up a n) ∧ IntKind.u64.wrap (lo a * 2 ^ n.toNat) = lo (up a n) := by
  obtain ⟨A, L, eA, eL, hA, hL, e⟩ := halves ha
  obtain ⟨k, rfl⟩ := Int.eq_ofNat_of_zero_le h
  have hk : k < 64 := by omega
  rw [eA, eL, show ((64 : Int) - (k : Int)).toNat = 64 - k from by omega, show ((k : Int)).toNat = k from rfl]
  have hqr : 2 ^ (64 - k) * 2 ^ k = 18446744073709551616 := by rw [two_split, show 64 - k + k = 64 from by omega]
  obtain ⟨p1, p2, p3, p4⟩ := up_parts (A := A) (Nat.two_pow_pos k) (Nat.two_pow_pos (64 - k)) hqr hL
  have c : ∀ x : Nat, ((x : Int) * 2 ^ k) = ((x * 2 ^ k : Nat) : Int) := fun x => by rw [Int.natCast_mul, Int.natCast_pow]; rfl
  have d : (L : Int) / 2 ^ (64 - k) = ((L / 2 ^ (64 - k) : Nat) : Int) := by rw [Int.natCast_ediv, Int.natCast_pow]; rfl
  have wr : ∀ x : Nat, IntKind.u64.wrap (x : Int) = ((x % 18446744073709551616 : Nat) : Int) := fun x => by rw [IntKind.wrap_u64]; omega
  unfold up
  rw [show ((k : Int)).toNat = k from rfl, e, c, c, c, d, wr, wr]
  have hu : A * 2 ^ k % 18446744073709551616 < 18446744073709551616 := Nat.mod_lt _ (by omega)
  have hk2 : (2 : Nat) ^ k ≤ 18446744073709551616 := Nat.pow_le_pow_right (by omega) (show k ≤ 64 by omega)
  rw [u64_or_nat _ _ hu (by omega), p1, or_add p2, ← p3]
  refine ⟨by unfold hi; omega, ?_⟩
  rw [← p4]; unfold lo; omega

theorem up_big_halves {a n : Int} (ha : U128 a) (h : 64 ≤ n) : IntKind.u64.wrap (lo a * 2 ^ (n - 64).toNat) = hi (up a n) ∧ 0 = lo (up a n) := by
  obtain ⟨A, L, eA, eL, hA, hL, e⟩ := halves ha
  obtain ⟨k, rfl⟩ : ∃ k : Nat, n = (k : Int) + 64 := ⟨(n - 64).toNat, by omega⟩
  rw [eL, show ((k : Int) + 64 - 64).toNat = k from by omega]
  unfold up
  rw [show ((k : Int) + 64).toNat = k + 64 from by omega, e, IntKind.wrap_u64]
  have c : ((A * 18446744073709551616 + L : Nat) : Int) * 2 ^ (k + 64) = ((A : Int) * 2 ^ k) * 340282366920938463463374607431768211456 + ((L : Int) * 2 ^ k) * 18446744073709551616 := by
    have h64 : (2 : Int) ^ 64 = 18446744073709551616 := rfl
    rw [Int.pow_add, h64, Int.natCast_add, Int.natCast_mul]
    generalize (2 : Int) ^ k = z
    rw [show ((18446744073709551616 : Nat) : Int) = 18446744073709551616 from rfl, ← Int.mul_assoc, Int.add_mul, Int.mul_right_comm (A : Int) 18446744073709551616 z]
    generalize (A : Int) * z = u
    generalize (L : Int) * z = v
    omega
  rw [c]
  generalize (A : Int) * 2 ^ k = u
  generalize (L : Int) * 2 ^ k = v
  unfold hi lo
  omega

theorem down_small_halves {a n : Int} (ha : U128 a) (h : 0 ≤ n) (h1 : n < 64) :
    hi a / 2 ^ n.toNat = hi (a / 2 ^ n.toNat) ∧ bits .or .u64 (lo a / 2 ^ n.toNat) (IntKind.u64.wrap (hi a * 2 ^ (64 - n).toNat)) = lo (a / 2 ^ n.toNat) := by
  obtain ⟨A, L, eA, eL, hA, hL, e⟩ := halves ha
  obtain ⟨k, rfl⟩ := Int.eq_ofNat_of_zero_le h
  have hk : k < 64 := by omega
  rw [eA, eL, show ((64 : Int) - (k : Int)).toNat = 64 - k from by omega, show ((k : Int)).toNat = k from rfl]
  have hqr : 2 ^ k * 2 ^ (64 - k) = 18446744073709551616 := by rw [two_split, show k + (64 - k) = 64 from by omega]
  obtain ⟨p1, p2, p3, p4⟩ := down_parts (Nat.two_pow_pos k) (Nat.two_pow_pos (64 - k)) hqr hA hL
  have c : ∀ x : Nat, ((x : Int) * 2 ^ (64 - k)) = ((x * 2 ^ (64 - k) : Nat) : Int) := fun x => by rw [Int.natCast_mul, Int.natCast_pow]; rfl
  have d : ∀ x : Nat, (x : Int) / 2 ^ k = ((x / 2 ^ k : Nat) : Int) := fun x => by rw [Int.natCast_ediv, Int.natCast_pow]; rfl
  have wr : ∀ x : Nat, IntKind.u64.wrap (x : Int) = ((x % 18446744073709551616 : Nat) : Int) := fun x => by rw [IntKind.wrap_u64]; omega
  rw [e, c, d, d, d, wr]
  have hu : A * 2 ^ (64 - k) % 18446744073709551616 < 18446744073709551616 := Nat.mod_lt _ (by omega)
  have hk2 : (2 : Nat) ^ (64 - k) ≤ 18446744073709551616 := Nat.pow_le_pow_right (by omega) (show 64 - k ≤ 64 by omega)
  refine ⟨by unfold hi; omega, ?_⟩
  rw [u64_or_nat _ _ (by omega) hu, Nat.or_comm, p1, or_add p2, ← p4]
  unfold lo; omega

theorem down_big_halves {a n : Int} (ha : U128 a) (h : 64 ≤ n) : 0 = hi (a / 2 ^ n.toNat) ∧ hi a / 2 ^ (n - 64).toNat = lo (a / 2 ^ n.toNat) := by
  obtain ⟨k, rfl⟩ : ∃ k : Nat, n = (k : Int) + 64 := ⟨(n - 64).toNat, by omega⟩
  rw [show ((k : Int) + 64 - 64).toNat = k from by omega, show ((k : Int) + 64).toNat = 64 + k from by omega, Int.pow_add, ← Int.ediv_ediv_of_nonneg (Int.pow_nonneg (by omega)), show (2 : Int) ^ 64 = 18446744073709551616 from rfl]
  have b : 0 ≤ a / 18446744073709551616 ∧ a / 18446744073709551616 < 18446744073709551616 := by unfold U128 at ha; omega
  have b1 : 0 ≤ a / 18446744073709551616 / 2 ^ k := Int.ediv_nonneg b.1 (Int.pow_nonneg (by omega))
  have b2 : a / 18446744073709551616 / 2 ^ k ≤ a / 18446744073709551616 := Int.ediv_le_self _ b.1
  unfold hi lo
  generalize a / 18446744073709551616 / 2 ^ k = x at *
  omega
end Go.Proofs.Ytpomdnglknbanaa

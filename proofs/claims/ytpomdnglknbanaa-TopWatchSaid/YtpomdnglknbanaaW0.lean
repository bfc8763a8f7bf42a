/-
  Plain arithmetic of numbers of 128 bits: high and low halves. No Go in sight.
-/
import Derived.WalkKit
set_option linter.unusedSimpArgs false
set_option linter.unusedVariables false
namespace Go.Proofs.Ytpomdnglknbanaa

/-- The upper half of a number of 128 bits. -/
def hi (x : Int) : Int := x / 18446744073709551616
/-- The lower half. -/
def lo (x : Int) : Int := x % 18446744073709551616
/-- A number of 64 bits. -/
def U64 (x : Int) : Prop := 0 ≤ x ∧ x < 18446744073709551616
/-- A number of 128 bits. -/
def U128 (x : Int) : Prop := 0 ≤ x ∧ x < 340282366920938463463374607431768211456
/-- x is the number with the halves h and l. -/
def Wd (x h l : Int) : Prop := U128 x ∧ h = hi x ∧ l = lo x

theorem U64.nonneg {x : Int} (h : U64 x) : 0 ≤ x := h.1
theorem U128.nonneg {x : Int} (h : U128 x) : 0 ≤ x := h.1
theorem U128.hi {x : Int} (h : U128 x) : U64 (hi x) := by unfold U64 U128 Ytpomdnglknbanaa.hi at *; omega
theorem U128.lo {x : Int} (_ : U128 x) : U64 (lo x) := by unfold U64 Ytpomdnglknbanaa.lo; omega
theorem Wd.mk {x : Int} (h : U128 x) : Wd x (hi x) (lo x) := ⟨h, rfl, rfl⟩
theorem Wd.of {h l : Int} (a : U64 h) (b : U64 l) : ∃ x, U128 x ∧ h = hi x ∧ l = lo x :=
  ⟨h * 18446744073709551616 + l, by unfold U64 U128 hi lo at *; omega⟩
theorem Wd.lits {h l : Int} (a : U64 h) (b : U64 l) : Wd (h * 18446744073709551616 + l) h l := by unfold Wd U64 U128 hi lo at *; omega
theorem Wd.lit {l : Int} (b : U64 l) : Wd l 0 l := by unfold Wd U64 U128 hi lo at *; omega
theorem U128.zero : U128 0 := by unfold U128; omega
theorem hi_zero : hi 0 = 0 := rfl
theorem lo_zero : lo 0 = 0 := rfl
theorem Wd.zero : Wd 0 0 0 := ⟨U128.zero, rfl, rfl⟩

/-- The sum by halves. -/
theorem sum_halves {a b : Int} (ha : U128 a) (hb : U128 b) (h : U128 (a + b)) :
    ∃ c, 0 ≤ c ∧ c ≤ 1 ∧ lo a + lo b + 0 = c * 18446744073709551616 + lo (a + b) ∧ hi a + hi b + c = 0 * 18446744073709551616 + hi (a + b) :=
  ⟨(lo a + lo b) / 18446744073709551616, by unfold U128 hi lo at *; omega⟩
theorem sum_large {a b : Int} (ha : U128 a) (hb : U128 b) (h : ¬ U128 (a + b)) :
    ∃ c s, 0 ≤ c ∧ c ≤ 1 ∧ U64 s ∧ lo a + lo b + 0 = c * 18446744073709551616 + lo (a + b) ∧ hi a + hi b + c = 1 * 18446744073709551616 + s :=
  ⟨(lo a + lo b) / 18446744073709551616, hi a + hi b + (lo a + lo b) / 18446744073709551616 - 18446744073709551616, by unfold U128 U64 hi lo at *; omega⟩
theorem diff_halves {a b : Int} (ha : U128 a) (hb : U128 b) (h : U128 (a - b)) :
    ∃ c, 0 ≤ c ∧ c ≤ 1 ∧ lo a - lo b - 0 = lo (a - b) - c * 18446744073709551616 ∧ hi a - hi b - c = hi (a - b) - 0 * 18446744073709551616 :=
  ⟨if lo a < lo b then 1 else 0, by unfold U128 hi lo at *; split <;> omega⟩
theorem diff_sign {a b : Int} (ha : U128 a) (hb : U128 b) (h : ¬ U128 (a - b)) :
    ∃ c s, 0 ≤ c ∧ c ≤ 1 ∧ U64 s ∧ lo a - lo b - 0 = lo (a - b) - c * 18446744073709551616 ∧ hi a - hi b - c = s - 1 * 18446744073709551616 :=
  ⟨if lo a < lo b then 1 else 0, hi a - hi b - (if lo a < lo b then 1 else 0) + 18446744073709551616, by unfold U128 U64 hi lo at *; split <;> omega⟩
/-- Less than 2^126, with the same lower half. -/
def half (x : Int) : Int := hi x / 4 * 18446744073709551616 + lo x
theorem half_hi (x : Int) : hi x / 4 = hi (half x) := by unfold half hi lo; omega
theorem half_lo (x : Int) : lo x = lo (half x) := by unfold half hi lo; omega
theorem half_lt {x : Int} (h : U128 x) : 0 ≤ half x ∧ half x < 85070591730234615865843651857942052864 := by unfold half U128 hi lo at *; omega
theorem half_u128 {x : Int} (h : U128 x) : U128 (half x) := by have := half_lt h; unfold U128; omega
theorem u64_wf {x : Int} (h : (Lit.int .u64 x).wf = true) : U64 x := by
  simp [Lit.wf, IntKind.min, IntKind.max, IntKind.signed, IntKind.bits] at h
  unfold U64
  omega
theorem lo_u64 (x : Int) : U64 (lo x) := by unfold U64 lo; omega
end Go.Proofs.Ytpomdnglknbanaa

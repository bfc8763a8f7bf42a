/-
  The walk of fade.Next.
-/
import Derived.Test.YtlnagfmaiabhaaaCm
import Derived.Test.YtlnagfmaiabhaaaSl
import Derived.Lib.Hide
set_option linter.unusedSimpArgs false
set_option linter.unusedVariables false
namespace Go.Proofs.Ytlnagfmaiabhaaa
open Go.RowKit

/-- The next mean: a step of the 2^s-th part towards 256 n. -/
def fnext (mean n s : Int) : Int := mean + (256 * n - mean) / 2 ^ s.toNat

theorem pow_cases {s : Int} (h : 0 ≤ s) (h1 : s ≤ 8) : ∃ k : Nat, s.toNat = k ∧ k ≤ 8 := ⟨s.toNat, rfl, by omega⟩
theorem fnext_bd {m n s : Int} (h0 : 0 ≤ s) (h1 : s ≤ 8) (a : 0 ≤ m) (b : m ≤ 4294967296) (c : 0 ≤ n) (d : n ≤ 16777216) : 0 ≤ fnext m n s ∧ fnext m n s ≤ 4294967296 := by
  unfold fnext
  obtain ⟨k, hk, hk8⟩ := pow_cases h0 h1
  rw [hk]
  have : k = 0 ∨ k = 1 ∨ k = 2 ∨ k = 3 ∨ k = 4 ∨ k = 5 ∨ k = 6 ∨ k = 7 ∨ k = 8 := by omega
  rcases this with rfl | rfl | rfl | rfl | rfl | rfl | rfl | rfl | rfl <;> simp only [Int.reducePow] <;> omega
theorem fnext_mono {a b n s : Int} (h0 : 0 ≤ s) (h1 : s ≤ 8) (h : a ≤ b) : fnext a n s ≤ fnext b n s ∧ fnext b n s - fnext a n s ≤ b - a := by
  unfold fnext
  obtain ⟨k, hk, hk8⟩ := pow_cases h0 h1
  rw [hk]
  have : k = 0 ∨ k = 1 ∨ k = 2 ∨ k = 3 ∨ k = 4 ∨ k = 5 ∨ k = 6 ∨ k = 7 ∨ k = 8 := by omega
  rcases this with rfl | rfl | rfl | rfl | rfl | rfl | rfl | rfl | rfl <;> simp only [Int.reducePow] <;> omega
theorem fnext_up {a n m s : Int} (h0 : 0 ≤ s) (h1 : s ≤ 8) (h : n ≤ m) : fnext a n s ≤ fnext a m s := by
  unfold fnext
  obtain ⟨k, hk, hk8⟩ := pow_cases h0 h1
  rw [hk]
  have : k = 0 ∨ k = 1 ∨ k = 2 ∨ k = 3 ∨ k = 4 ∨ k = 5 ∨ k = 6 ∨ k = 7 ∨ k = 8 := by omega
  rcases this with rfl | rfl | rfl | rfl | rfl | rfl | rfl | rfl | rfl <;> simp only [Int.reducePow] <;> omega

set_option maxHeartbeats 400000 in
theorem fcheck_ok (m : Int) (a : 0 ≤ m) (b : m ≤ 4294967296) (w : World) :
    Calls Try.prog 101 #[.int .i64 m] w fun e w' => e = .returned (.int .i64 0) ∧ w = w' := by
  go_enter Try.func101, Try.ntmps101
  go_wp2
  go_ret
  exact ⟨rfl, rfl⟩
theorem ret_int {k : IntKind} {a b : Int} (h : a = b) : Ending.returned (.int k a) = .returned (.int k b) := by rw [h]

set_option maxHeartbeats 400000 in
theorem next_ok (m n s x : Int) (a : 0 ≤ m) (b : m ≤ 4294967296) (c : 0 ≤ n) (d : n ≤ 16777216) (e : 0 ≤ s) (f : s ≤ 8) (hx : fnext m n s = x) (w : World) :
    Calls Try.prog 86 #[.int .i64 m, .int .i64 n, .int .i64 s] w fun e w' => e = .returned (.tuple #[.int .i64 x, .int .i64 0]) ∧ w = w' := by
  have bd := fnext_bd e f a b c d
  unfold fnext at bd hx
  have Hx := Lib.hid hx
  clear hx
  go_enter Try.func86, Try.ntmps86
  go_wp2_with (first | (go_at_call 101; refine (fcheck_ok _ (by omega) (by omega) _).mono ?_; rintro e w' ⟨rfl, rfl⟩) | (go_at_call 77; refine (val_ok _ (by omega) (by omega) _).mono ?_; rintro e w' ⟨rfl, rfl⟩))
  go_ret2
  exact ⟨by rw [Hx.out]; rfl, rfl⟩
end Go.Proofs.Ytlnagfmaiabhaaa

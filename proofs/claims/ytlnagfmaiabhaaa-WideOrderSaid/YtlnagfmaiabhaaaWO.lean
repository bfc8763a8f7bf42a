import Derived.Test.YtlnagfmaiabhaaaW4
import Derived.Test.YtlnagfmaiabhaaaQA
set_option linter.unusedSimpArgs false
set_option linter.unusedVariables false
namespace Go.Proofs.Ytlnagfmaiabhaaa
open Go.RowKit

theorem makes_wide {o : Oper} (h : o.op = .alloc 24) (hg : o.guard = none) : Makes Try.prog o #[.int .u64 0, .int .u64 0] 24 :=
  ⟨hg, fun ev w => by unfold execOp; rw [h]; simp [go_sem]⟩

theorem blen_mono {a b : Int} (ha : U128 a) (hb : U128 b) (h : a ≤ b) : blen a ≤ blen b := by
  by_cases c : 0 < a
  · obtain ⟨i, ei, li, ui⟩ := blen_pos ha c
    obtain ⟨j, ej, lj, uj⟩ := blen_pos hb (by omega)
    rcases Nat.lt_or_ge j i with q | q
    · have := pow_lt_pow q
      rw [Int.pow_succ] at uj
      omega
    · omega
  · have : a = 0 := by have := ha.1; omega
    rw [this, blen_zero]
    exact (blen_bd hb).1
theorem cmpv_add {a b c : Int} : cmpv (a + c) (b + c) = cmpv a b := by
  unfold cmpv
  by_cases h : a < b
  · rw [if_pos h, if_pos (by omega)]
  · rw [if_neg h, if_neg (show ¬ a + c < b + c by omega)]
    by_cases h2 : a = b
    · rw [if_pos h2, if_pos (by omega)]
    · rw [if_neg h2, if_neg (by omega)]
theorem cmpv_swap (a b : Int) : cmpv b a = - cmpv a b := by
  have h1 := cmpv_spec a b
  have h2 := cmpv_spec b a
  omega
theorem eq_halves {a b : Int} (h1 : hi a = hi b) (h2 : lo a = lo b) : a = b := by unfold hi lo at *; omega

end Go.Proofs.Ytlnagfmaiabhaaa

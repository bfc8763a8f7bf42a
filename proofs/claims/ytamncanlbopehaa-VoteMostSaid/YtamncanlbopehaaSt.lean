
/-
  The walks of package stat: Check, Of, Spread; the statements' own sums and statBegun.
-/
import Derived.Test.YtamncanlbopehaaSl
import Derived.Test.YtamncanlbopehaaVal
set_option linter.unusedSimpArgs false
set_option linter.unusedVariables false
namespace Go.Proofs.Ytamncanlbopehaa
open Go.RowKit

/-- Sums that may be. -/
def SumsOK (n s q : Int) : Prop := 0 ≤ n ∧ n ≤ 64 ∧ 0 ≤ s ∧ s ≤ n * 16777216 ∧ s ≤ q ∧ q ≤ s * 16777216 ∧ s * s ≤ n * q
theorem sumsOK_of {l : List Int} (h : Btw 0 16777216 l) (hl : l.length ≤ 64) : SumsOK l.length (sumI l) (sqI l) := by
  have h1 := sumI_bd h
  have h2 := sqI_bd h
  have h3 := spr_nonneg l
  unfold spr at h3
  exact ⟨by omega, by omega, by omega, by omega, by omega, by omega, by omega⟩
/-- Values, and all that is asked of them. -/
theorem stat_pack (l : List Int) : ∃ (ys : List Int) (n : Nat) (S Q X : Int), vals l = ys ∧ ys.length = n ∧ n ≤ 64 ∧ Btw 0 16777216 ys ∧ sumI ys = S ∧ sqI ys = Q ∧ (n : Int) * Q - S * S = X ∧ spr ys = X ∧ SumsOK n S Q :=
  ⟨vals l, _, _, _, _, rfl, rfl, by rw [vals_len]; omega, vals_btw l, rfl, rfl, rfl, rfl, sumsOK_of (vals_btw l) (by rw [vals_len]; omega)⟩
theorem SumsOK.bd {n s q : Int} (h : SumsOK n s q) : 0 ≤ n ∧ n ≤ 64 ∧ 0 ≤ s ∧ s ≤ 1073741824 ∧ 0 ≤ q ∧ q ≤ 18014398509481984 ∧ 0 ≤ n * q ∧ n * q ≤ 1152921504606846976 ∧ 0 ≤ s * s ∧ s * s ≤ n * q := by
  obtain ⟨h1, h2, h3, h4, h5, h6, h7⟩ := h
  have a : 0 ≤ n * q := Int.mul_nonneg h1 (by omega)
  have b : n * q ≤ 64 * q := Int.mul_le_mul_of_nonneg_right h2 (by omega)
  have c : 0 ≤ s * s := Int.mul_nonneg h3 h3
  exact ⟨h1, h2, h3, by omega, by omega, by omega, a, by omega, c, h7⟩

end Go.Proofs.Ytamncanlbopehaa


import Derived.Test.YtlnagfmaiabhaaaLrankmedian
set_option linter.unusedSimpArgs false
set_option linter.unusedVariables false
namespace Go.Proofs.Ytlnagfmaiabhaaa
open Go.RowKit
theorem kth_up (l : List Int) {K K2 : Nat} (h : K ≤ K2) (hK : K2 < l.length) : (srt l).getD K 0 ≤ (srt l).getD K2 0 :=
  (kth_iff l K2 hK _).2 (by have := (kth_iff l K (by omega) ((srt l).getD K 0)).1 (Int.le_refl _); omega)
theorem rank_up {n : Nat} {p p2 q : Int} {K K2 : Nat} (hq : 1 ≤ q) (hp : p ≤ p2) (h1 : max 1 (((n : Int) * p + q - 1) / q) = (K : Int) + 1) (h2 : max 1 (((n : Int) * p2 + q - 1) / q) = (K2 : Int) + 1) : K ≤ K2 := by
  have := Int.mul_le_mul_of_nonneg_left hp (show (0 : Int) ≤ n by omega)
  have := Int.ediv_le_ediv (show 0 < q by omega) (show (n : Int) * p + q - 1 ≤ n * p2 + q - 1 by omega)
  omega
theorem srt_5193 : srt [5, 1, 9, 3] = [1, 3, 5, 9] := srt_eq (by decide) (by decide)

end Go.Proofs.Ytlnagfmaiabhaaa

import Derived.Test.YtlnagfmaiabhaaaWOa
import Derived.Test.YtlnagfmaiabhaaaWOb
import Derived.Test.YtlnagfmaiabhaaaWOc
set_option linter.unusedSimpArgs false
set_option linter.unusedVariables false
namespace Go.Proofs.Ytlnagfmaiabhaaa
open Go.RowKit

theorem wideOrder_walk (a b c : Int) (w : World) (ha : U128 a) (hb : U128 b) (hc : U128 c) :
    Calls Try.prog 3 #[.agg #[.int .u64 (hi a), .int .u64 (lo a)], .agg #[.int .u64 (hi b), .int .u64 (lo b)], .agg #[.int .u64 (hi c), .int .u64 (lo c)]] w fun e w' =>
      e = .returned (.bool true) ∧ Below w.heap.size w w' := by
  rcases Int.lt_trichotomy a b with h | h | h
  · exact wideOrder_a a b c w ha hb hc h
  · exact wideOrder_b a b c w ha hb hc h
  · exact wideOrder_c a b c w ha hb hc h
end Go.Proofs.Ytlnagfmaiabhaaa

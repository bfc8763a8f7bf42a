/-
  Of the whole program, once a seat: whatever may be entered.
-/
import Derived.Test.YtpomdnglknbanaaRows
import Derived.Test.YtpomdnglknbanaaChecked
import Derived.WalkKit
import Derived.ProofKit
import Derived.JoinedOf
set_option linter.unusedSimpArgs false
set_option linter.unusedVariables false
namespace Go.Proofs.Ytpomdnglknbanaa
open Go
theorem may_enter : Try.pinned.checked.prog.mayEnter = true := by kernel_rfl
end Go.Proofs.Ytpomdnglknbanaa

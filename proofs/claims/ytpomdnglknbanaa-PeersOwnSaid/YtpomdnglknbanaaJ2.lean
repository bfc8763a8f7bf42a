/-
  Of the whole program, once a seat: what is lifted.
-/
import Derived.Test.YtpomdnglknbanaaRows
import Derived.Test.YtpomdnglknbanaaChecked
import Derived.WalkKit
import Derived.ProofKit
import Derived.JoinedOf
set_option linter.unusedSimpArgs false
set_option linter.unusedVariables false
namespace Go.Proofs.Ytpomdnglknbanaa
open Go
theorem lifts_fin : (Rows.peersBackRow.lifted == Try.pinned.checked.prog.liftsFinal) = true := by kernel_rfl
end Go.Proofs.Ytpomdnglknbanaa

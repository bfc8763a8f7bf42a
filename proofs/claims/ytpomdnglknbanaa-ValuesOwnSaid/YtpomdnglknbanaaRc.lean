
/-
  What else the laws of rank and vote call.
-/
import Derived.Test.YtpomdnglknbanaaRk
import Derived.Test.YtpomdnglknbanaaRp
set_option linter.unusedSimpArgs false
set_option linter.unusedVariables false
namespace Go.Proofs.Ytpomdnglknbanaa
open Go.RowKit

theorem same_below' {P : Program} {f : FuncId} {args : Array Value} {w : World} {v : Value} (h : Calls P f args w fun e w' => e = .returned v ∧ w' = w) : Calls P f args w fun e w' => e = .returned v ∧ w = w' :=
  h.mono fun _ _ ⟨he, hw⟩ => ⟨he, hw.symm⟩
set_option maxRecDepth 100000 in
set_option maxHeartbeats 4000000 in
theorem vlevel_none (A : Option Addr) (n c : Nat) (l : List Int) (k : Int) (w : World) (hr : Row w A n l) (hm : n ≤ 64) (hb : Btw 0 127 l) (hk : 1 ≤ k) (hk2 : k ≤ 64) (hkn : (n : Int) < k) :
    Calls Try.prog 84 #[.slice A n c, .int .i64 k] w fun e w' => e = .returned (.tuple #[.int .i64 0, .int .i64 4]) ∧ w = w' := by
  have HL := Lib.hid (vlook_ok A n c l w hr hm hb)
  have a1 : ¬ k < 1 := by omega
  have a2 : ¬ 64 < k := by omega
  clear hr hb
  go_enter Try.func84, Try.ntmps84
  go_wp2_with fail
  refine (HL.out).mono ?_
  rintro e w' ⟨rfl, rfl⟩
  go_wp2_with fail
  go_ret2
  exact ⟨rfl, rfl⟩
end Go.Proofs.Ytpomdnglknbanaa

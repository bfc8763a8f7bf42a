/-
  slices.Equal of two slices that read as one list.
-/
import Derived.Test.YtpomdnglknbanaaGreatLs
import Derived.Test.YtpomdnglknbanaaGreatShelf
set_option linter.unusedSimpArgs false
set_option linter.unusedVariables false
namespace Go.Proofs.YtpomdnglknbanaaGreat
open Go.RowKit

theorem Below.drewN {B : Nat} {w : World} (q : Nat) : Below B w (w.drewN q) := by
  have h := Below.refl B w
  exact ⟨h.os, h.tape, h.output, h.size, h.block⟩

theorem equal_ok (A A' : Option Addr) (n c n' c' : Nat) (l : List Int) (w : World) (h : Row w A n l) (h' : Row w A' n' l) (hn : n ≤ 1000000000000000000) :
    Calls Tryz.prog 81 #[.slice A n c, .slice A' n' c'] w fun e w' => e = .returned (.bool true) ∧ Below w.heap.size w w' := by
  have e1 := h.1
  have e2 := h'.1
  obtain rfl : n = n' := by omega
  rcases Nat.eq_zero_or_pos n with h0 | h0
  · subst h0
    refine (Tryz.slices_Equal_int_empty A A' c 0 c' w (by omega)).mono ?_
    rintro e w' ⟨rfl, rfl⟩
    exact ⟨by simp, Below.refl _ _⟩
  · obtain ⟨b, off, rfl, _, hc⟩ := h.2 h0
    obtain ⟨b', off', rfl, _, hc'⟩ := h'.2 h0
    refine (Tryz.slices_Equal_int b off n c b' off' n c' l l w (by omega) (by omega) (by omega) (by omega) (fun j hj => hc j (by omega)) (fun j hj => hc' j (by omega))).mono ?_
    rintro e w' ⟨rfl, q, rfl⟩
    exact ⟨by simp, Below.drewN q⟩
end Go.Proofs.YtpomdnglknbanaaGreat

/-
  (*Town).Lose of a place at which nothing is.
-/
import Derived.Test.YtpomdnglknbanaaTg
set_option linter.unusedSimpArgs false
set_option linter.unusedVariables false
namespace Go.Proofs.Ytpomdnglknbanaa
open Go Go.RowKit
set_option maxRecDepth 100000 in
set_option maxHeartbeats 8000000 in
theorem tlose_no {t i : Nat} {S : TSt} {f : Nat → Prop} (w : World) (h : TRep w t S f) (hi : S.way.length ≤ i) (hw : i ≤ 1000) :
    Calls Try.prog 69 #[.pointer (some ⟨t, 0, none⟩), .int .i64 i] w fun e w' => e = .returned (.int .i64 4) ∧ w' = w := by
  obtain ⟨c, ga, gn, gd, ca, cn, cd, wv, bs, h⟩ := h
  obtain ⟨_, k1, k2, k3, kf⟩ := h.cells
  obtain ⟨A, cw, rfl, _, _, _⟩ := own_form h.way
  obtain ⟨m, hm⟩ : ∃ m, S.way.length = m := ⟨_, rfl⟩
  rw [hm] at k3 hi
  have i0 : ¬ (i : Int) < 0 := by omega
  have i2 : decide ((m : Int) ≤ i) = true := by simp; omega
  have i3 : (m : Int) ≤ i := by omega
  clear h hm
  go_enter Try.func69, Try.ntmps69
  go_wp2_with fail
  go_ret
  exact ⟨rfl, rfl⟩
end Go.Proofs.Ytpomdnglknbanaa

/-
  The walk of slices.Clone.
-/
import Derived.Test.YtpomdnglknbanaaGreatLs
import Derived.WalkSpells
import Derived.Lib.SliceRun
set_option linter.unusedSimpArgs false
set_option linter.unusedVariables false
namespace Go.Proofs.YtpomdnglknbanaaGreat
open Go.RowKit

set_option maxHeartbeats 1000000 in
theorem clone_own (A : Option Addr) (n c : Nat) (l : List Int) (w : World) (hr : Row w A n l) (hm : n ≤ 1000000) :
    Calls Tryz.prog 62 #[.slice A n c] w fun e w' => ∃ v, e = .returned v ∧ w'.ownsRow w.heap.size 3 1 v n (l.map (Value.int .i64)) ∧ Below w.heap.size w w' := by
  have hq := fun (w : World) => Lib.run_eql_slice_nil (P := Tryz.prog) w 41 3 A n c 0 0 Tryz.underlying41
  rcases A with _ | ad
  · have h0 : n = 0 := by
      rcases Nat.eq_zero_or_pos n with h | h
      · exact h
      · obtain ⟨b, off, e, _⟩ := hr.at h; cases e
    subst h0
    have hl : l = [] := List.eq_nil_of_length_eq_zero hr.1
    subst hl
    clear hr
    simp only [Option.isNone] at hq
    go_enter Tryz.func62, Tryz.ntmps62
    go_wp2_with fail
    go_ret
    exact ⟨_, rfl, World.ownsRow_nil _ _ _ _, Below.refl _ _⟩
  · simp only [Option.isNone] at hq
    obtain ⟨i0, hi, hz0, hz1, hz2⟩ := info_parts info_int
    have hlen : (l.map (Value.int .i64)).length = n * 1 := by simp [hr.1]
    have hca := hr.cellsAt
    have HCa := Lib.hid hca
    have HLen := Lib.hid hlen
    clear hr hca hlen
    go_enter Tryz.func62, Tryz.ntmps62
    go_wp2_with (at_builtin; refine wpList_append_own _ rfl _ _ 41 rfl w.heap.size 3 i0 (.int .i64 0) 1 8 Tryz.underlying41 hi hz0 hz1 hz2 rfl (by decide) _ _ _ rfl (World.ownsRow_made w #[] 0 (Nat.le_refl _) (Nat.zero_le _) rfl) ad n c (l.map (Value.int .i64)) rfl HLen.out (HCa.out _) (ints_one l) (by unfold maxLen; omega) (by omega) (by simp) ?_)
    intro v1 w1 own1 gr1 _
    obtain ⟨A1, c1, rfl, q1, q2, q3⟩ := own_form own1
    have bel := ((Below.refl w.heap.size w).alloc (Nat.le_refl _) (.cells #[] 3)).grown gr1 (by simp) (fun g hg => by simp [Value.ownBlock] at hg; omega)
    have own2 : w1.ownsRow w.heap.size 3 1 (.slice A1 n c1) n (l.map (Value.int .i64)) := by simpa using own1
    have HO := Lib.hid own2
    clear own1 gr1 own2
    go_wp2_with fail
    go_ret
    exact ⟨_, by simp, HO.out, bel⟩
end Go.Proofs.YtpomdnglknbanaaGreat

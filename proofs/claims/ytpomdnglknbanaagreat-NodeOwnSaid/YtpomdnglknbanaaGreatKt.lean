
/-
  The sum of a row, slices.Equal at subs: for the node's laws.
-/
import Derived.Test.YtpomdnglknbanaaGreatKs
set_option linter.unusedSimpArgs false
set_option linter.unusedVariables false
namespace Go.Proofs.YtpomdnglknbanaaGreat
open Go Go.RowKit
set_option maxHeartbeats 4000000 in
/-- slices.Equal at two rows of subs that read alike. -/
theorem equalS_ok (A B : Option Addr) (n c c' : Nat) (L : List Sub) (w : World) (ha : SRow w A n L) (hb : SRow w B n L) (hn : n ≤ 1000) :
    Calls Tryz.prog 28 #[.slice A n c, .slice B n c'] w fun e w' => e = .returned (.bool true) ∧ Below w.heap.size w w' := by
  have HA := Lib.hid ha
  have HB := Lib.hid hb
  have e0 : ((n : Int) == n) = true := by simp
  clear ha hb
  go_enter Tryz.func28, Tryz.ntmps28
  go_wp2_with fail
  go_loopw [13] (fun i wr => ∃ k : Nat, k ≤ n ∧ i = .int .i64 k ∧ Below w.heap.size w wr) (fun i _ => n - (intOf i).toNat)
  case atStart => exact ⟨0, Nat.zero_le _, rfl, Below.refl _ _⟩
  case round =>
    obtain ⟨k, hk, rfl, bel⟩ := hrel
    by_cases hlt : k < n
    · obtain ⟨ba, oa, rfl, la, a0, a1, a2⟩ := (HA.out.below bel).at hlt
      obtain ⟨bb, ob, rfl, lb, b0, b1, b2⟩ := (HB.out.below bel).at hlt
      obtain ⟨u, hu⟩ : ∃ u, L.getD k default = u := ⟨_, rfl⟩
      rw [hu] at a0 a1 a2 b0 b1 b2
      obtain ⟨s, hs⟩ : ∃ x, u.id = x := ⟨_, rfl⟩
      obtain ⟨t, ht⟩ : ∃ x, u.theta = x := ⟨_, rfl⟩
      obtain ⟨o, ho⟩ : ∃ x, u.on = x := ⟨_, rfl⟩
      rw [hs] at a0 b0
      rw [ht] at a1 b1
      rw [ho] at a2 b2
      have kw : IntKind.i64.wrap ((k : Int) + 1) = (k : Int) + 1 := IntWalk.i64_in _ (by omega)
      have HBe := Lib.hid bel
      clear hu hs ht ho bel
      go_wp2_with fail
      refine wp_region_quiet_all (Ext _) (by kernel_rfl) (by kernel_rfl) (Ext.drawn _) ?_
      repeat (first | go_big_quiet_skip | go_big_quiet_step (fail) | (refine BigFrame.wpQuiet_want rfl (fun K hK => ?_); apply Exists.intro; refine ⟨fun w2 h2 => ?_, ?_⟩; (next => (have g1 := Below.cells h2.below; have g2 := Below.frozens h2.below; (try simp only [World.size_alloc, World.size_setCell] at g1 g2); first | (go_simp; (fail)) | (simp [go_sem, ↓IntWalk.iteOmega, *]; done) | (simp [go_sem, ↓IntWalk.iteOmega, *]; rfl)))); (go_simp; refine hK _ ?_; clear hK K))
      refine wpQuiet_nil ?_
      intro w1 h1
      have hb1 := h1.below
      clear h1
      have z1 := hb1.size
      have c1 := Below.cells hb1
      have f1 := Below.frozens hb1
      try simp only [World.size_alloc, World.size_setCell, World.size_drew] at z1 c1 f1
      go_wp2_with fail
      go_roundw
      case rel => exact ⟨k + 1, by omega, by go_num, HBe.out.trans (hb1.mono HBe.out.size)⟩
      case measure => simp [intOf]; omega
    · obtain rfl : n = k := by omega
      go_wp2_with fail
      go_ret
      exact ⟨rfl, bel⟩
end Go.Proofs.YtpomdnglknbanaaGreat

/-
  The sum of a row, slices.Equal at subs: for the node's laws.
-/
import Derived.Test.YtpomdnglknbanaaKs
set_option linter.unusedSimpArgs false
set_option linter.unusedVariables false
namespace Go.Proofs.Ytpomdnglknbanaa
open Go Go.RowKit
set_option maxHeartbeats 1000000 in
theorem nsum_ok (A : Option Addr) (n c : Nat) (l : List Int) (S : Int) (w : World) (hr : Row w A n l) (hm : n ≤ 64) (hb : Btw 0 16777216 l) (hS : sumI l = S) :
    Calls Try.prog 62 #[.slice A n c] w fun e w' => e = .returned (.int .i64 S) ∧ w = w' := by
  have HB := Lib.hid hr.each
  have HL := Lib.hid hr.len
  have HS := Lib.hid hS
  have HV := Lib.hid hb
  clear hr hS hb
  go_enter Try.func62, Try.ntmps62
  go_wp2_with fail
  go_loop [3, 8] (fun v i => ∃ (k : Nat) (D : Int), k ≤ n ∧ i = .int .i64 k ∧ v = .int .i64 D ∧ sumI (l.take k) = D) (fun _ i => n - (intOf i).toNat)
  case atStart => exact ⟨0, 0, Nat.zero_le _, rfl, rfl, by simp [sumI]⟩
  case round =>
    obtain ⟨k, D, hk, rfl, rfl, hD⟩ := hrel
    have d1 := sumI_bd (HV.out.take k)
    have hlen : (l.take k).length ≤ 64 := by simp; omega
    rw [hD] at d1
    have d3 : 0 ≤ D ∧ D ≤ 1073741824 := by omega
    by_cases hlt : k < n
    · have d2 := sumI_snoc l (k := k) (by have := HL.out; omega)
      have hx2 := HV.out.get (k := k) (by have := HL.out; omega)
      rw [hD] at d2
      obtain ⟨bkx, offx, hAx, ltx, hrx⟩ := HB.out k hlt
      subst hAx
      obtain ⟨x, hvx, hxx⟩ := name_num hrx
      have HX := Lib.hid hvx
      clear hvx hrx
      rw [← HX.out] at hx2 d2
      have D2 := Lib.hid d2
      clear d1 hlen hD d2
      go_wp2_with fail
      go_round
      case rel => exact ⟨k + 1, _, by omega, by go_num, rfl, D2.out⟩
      case measure => simp [intOf]; omega
    · obtain rfl : n = k := by omega
      rw [List.take_of_length_le (by have := HL.out; omega), HS.out] at hD
      subst hD
      clear d1 hlen
      go_wp2_with fail
      go_ret
      exact ⟨rfl, rfl⟩
set_option maxHeartbeats 4000000 in
/-- slices.Equal at two rows of subs that read alike. -/
theorem equalS_ok (A B : Option Addr) (n c c' : Nat) (L : List Sub) (w : World) (ha : SRow w A n L) (hb : SRow w B n L) (hn : n ≤ 1000) :
    Calls Try.prog 64 #[.slice A n c, .slice B n c'] w fun e w' => e = .returned (.bool true) ∧ Below w.heap.size w w' := by
  have HA := Lib.hid ha
  have HB := Lib.hid hb
  have e0 : ((n : Int) == n) = true := by simp
  clear ha hb
  go_enter Try.func64, Try.ntmps64
  go_wp2_with fail
  go_loopw [13] (fun i wr => ∃ k : Nat, k ≤ n ∧ i = .int .i64 k ∧ Below w.heap.size w wr) (fun i _ => n - (intOf i).toNat)
  case atStart => exact ⟨0, Nat.zero_le _, rfl, Below.refl _ _⟩
  case round =>
    obtain ⟨k, hk, rfl, bel⟩ := hrel
    by_cases hlt : k < n
    · obtain ⟨ba, oa, rfl, la, a0, a1, a2⟩ := (HA.out.below bel).at hlt
      obtain ⟨bb, ob, rfl, lb, b0, b1, b2⟩ := (HB.out.below bel).at hlt
      obtain ⟨u, hu⟩ : ∃ u, L.getD k default = u := ⟨_, rfl⟩
      rw [hu] at a0 a1 a2 b0 b1 b2
      obtain ⟨s, hs⟩ : ∃ x, u.id = x := ⟨_, rfl⟩
      obtain ⟨t, ht⟩ : ∃ x, u.theta = x := ⟨_, rfl⟩
      obtain ⟨o, ho⟩ : ∃ x, u.on = x := ⟨_, rfl⟩
      rw [hs] at a0 b0
      rw [ht] at a1 b1
      rw [ho] at a2 b2
      have kw : IntKind.i64.wrap ((k : Int) + 1) = (k : Int) + 1 := IntWalk.i64_in _ (by omega)
      have HBe := Lib.hid bel
      clear hu hs ht ho bel
      go_wp2_with fail
      refine wp_region_quiet_all (Ext _) (by kernel_rfl) (by kernel_rfl) (Ext.drawn _) ?_
      repeat (first | go_big_quiet_skip | go_big_quiet_step (fail) | (refine BigFrame.wpQuiet_want rfl (fun K hK => ?_); apply Exists.intro; refine ⟨fun w2 h2 => ?_, ?_⟩; (next => (have g1 := Below.cells h2.below; have g2 := Below.frozens h2.below; (try simp only [World.size_alloc, World.size_setCell] at g1 g2); first | (go_simp; (fail)) | (simp [go_sem, ↓IntWalk.iteOmega, *]; done) | (simp [go_sem, ↓IntWalk.iteOmega, *]; rfl)))); (go_simp; refine hK _ ?_; clear hK K))
      refine wpQuiet_nil ?_
      intro w1 h1
      have hb1 := h1.below
      clear h1
      have z1 := hb1.size
      have c1 := Below.cells hb1
      have f1 := Below.frozens hb1
      try simp only [World.size_alloc, World.size_setCell, World.size_drew] at z1 c1 f1
      go_wp2_with fail
      go_roundw
      case rel => exact ⟨k + 1, by omega, by go_num, HBe.out.trans (hb1.mono HBe.out.size)⟩
      case measure => simp [intOf]; omega
    · obtain rfl : n = k := by omega
      go_wp2_with fail
      go_ret
      exact ⟨rfl, bel⟩
end Go.Proofs.Ytpomdnglknbanaa

/-
  slices.IsSorted of what is sorted.
-/
import Derived.Test.YtpomdnglknbanaaLs
import Derived.Test.YtpomdnglknbanaaShelf
set_option linter.unusedSimpArgs false
set_option linter.unusedVariables false
namespace Go.Proofs.Ytpomdnglknbanaa
open Go.RowKit
theorem same_below2 {P : Program} {f : FuncId} {args : Array Value} {w : World} {v : Value} (h : Calls P f args w fun e w' => e = .returned v ∧ w' = w) : Calls P f args w fun e w' => e = .returned v ∧ Below w.heap.size w w' :=
  h.mono fun _ _ ⟨he, hw⟩ => ⟨he, hw ▸ Below.refl _ _⟩
theorem pair_le {l : List Int} (h : l.Pairwise (· ≤ ·)) {i j : Nat} (hij : i < j) (hj : j < l.length) : l.getD i 0 ≤ l.getD j 0 := by
  have := List.pairwise_iff_getElem.1 h i j (by omega) hj hij
  simpa [List.getD, show i < l.length by omega, hj] using this

set_option maxRecDepth 100000 in
set_option maxHeartbeats 4000000 in
theorem isSorted_ok (A : Option Addr) (n c : Nat) (l : List Int) (w : World) (hr : Row w A n l) (hm : n ≤ 1000000) (hs : l.Pairwise (· ≤ ·)) :
    Calls Try.prog 129 #[.slice A n c] w fun e w' => e = .returned (.bool true) ∧ Below w.heap.size w w' := by
  have HE := Lib.hid hr.each
  have hp : ∀ j, j + 1 < n → l.getD j 0 ≤ l.getD (j + 1) 0 := fun j hj => pair_le hs (by omega) (by rw [hr.1]; exact hj)
  have HP := Lib.hid hp
  have hw1 : IntKind.i64.wrap ((n : Int) - 1) = (n : Int) - 1 := IntWalk.i64_in _ (by omega)
  clear hr hs hp
  go_enter Try.func129, Try.ntmps129
  go_wp2_with fail
  go_loopw [3] (fun i wr => ∃ j : Int, -1 ≤ j ∧ j < n ∧ i = .int .i64 j ∧ Below w.heap.size w wr) (fun i _ => (intOf i).toNat)
  case atStart => exact ⟨(n : Int) - 1, by omega, by omega, rfl, Below.refl _ _⟩
  case round =>
    obtain ⟨j, hj1, hj2, rfl, bel⟩ := hrel
    have hsz := bel.size
    by_cases hlt : 0 < j
    · obtain ⟨K, rfl⟩ : ∃ K : Nat, j = (K : Int) + 1 := ⟨(j - 1).toNat, by omega⟩
      have hle := HP.out K (by omega)
      obtain ⟨b, off, rfl, lt, p1⟩ := HE.out K (by omega)
      obtain ⟨b', off', e, _, p2⟩ := HE.out (K + 1) (by omega)
      injection e with e
      injection e with e1 e2
      subst e1 e2
      replace p1 := (bel.cell (p := ⟨b, off + K, none⟩) lt).trans p1
      replace p2 := (bel.cell (p := ⟨b, off + (K + 1), none⟩) lt).trans p2
      obtain ⟨x, hx⟩ : ∃ x, l.getD K 0 = x := ⟨_, rfl⟩
      obtain ⟨y, hy⟩ : ∃ x, l.getD (K + 1) 0 = x := ⟨_, rfl⟩
      rw [hx] at p1 hle
      rw [hy] at p2 hle
      have hL : ∀ w', Calls Try.prog 151 #[.int .i64 y, .int .i64 x] w' fun e w'' => e = .returned (.bool false) ∧ Below w'.heap.size w' w'' := fun w' => by
        have := same_below2 (Try.cmp_Less_int2 y x w')
        rwa [show decide (y < x) = false by simp; omega] at this
      have HLs := Lib.hid hL
      have k1 : IntKind.i64.wrap ((K : Int) + 1 - 1) = K := by rw [show (K : Int) + 1 - 1 = K by omega]; exact IntWalk.i64_in _ (by omega)
      have k2 : (0 : Int) ≤ (K : Int) + 1 := by omega
      have k3 : (K : Int) + 1 < n := by omega
      have k4 : ((K : Int) + 1).toNat = K + 1 := by omega
      have k6 : (K : Int) < n := by omega
      have k9 : IntKind.i64.wrap (K : Int) = K := IntWalk.i64_in _ (by omega)
      have k7 : (0 : Int) ≤ K := by omega
      have k5 : (K : Int) + 1 - 1 = K := by omega
      clear hx hy hL
      go_wp2_with fail
      refine wp_region_quiet_all (Ext _) (by kernel_rfl) (by kernel_rfl) (Ext.drawn _) ?_
      repeat (first | go_big_quiet_skip | go_big_quiet_step (fail) | (refine BigFrame.wpQuiet_want rfl (fun K hK => ?_); apply Exists.intro; refine ⟨fun w2 h2 => ?_, ?_⟩; (next => (have g1 := Below.cells h2.below; have g2 := Below.frozens h2.below; (try simp only [World.size_alloc, World.size_setCell] at g1 g2); first | (go_simp; (go_at_call 151; exact h2.calls (HLs.out _))) | (simp [go_sem, ↓IntWalk.iteOmega, *]; done) | (simp [go_sem, ↓IntWalk.iteOmega, *]; rfl)))); (go_simp; refine hK _ ?_; clear hK K))
      refine wpQuiet_nil ?_
      intro w1 h1
      have hb1 := h1.below
      clear h1
      have z1 := hb1.size
      have c1 := Below.cells hb1
      have f1 := Below.frozens hb1
      try simp only [World.size_alloc, World.size_setCell, World.size_drew] at z1 c1 f1
      go_wp2_with fail
      go_roundw
      case rel => exact ⟨(K : Int), by omega, by omega, by go_num, bel.trans (hb1.mono bel.size)⟩
      case measure => simp [intOf]
    · go_wp2_with fail
      go_ret
      exact ⟨rfl, bel⟩
end Go.Proofs.Ytpomdnglknbanaa

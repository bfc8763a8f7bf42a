/-
  The walk of level.When.
-/
import Derived.Test.YtgiipelonojgaaaLw
set_option linter.unusedSimpArgs false
set_option linter.unusedVariables false
namespace Go.Proofs.Ytgiipelonojgaaa
open Go.RowKit

/-- What level.Of answers of T, as far as When asks. -/
def Asks (z L th t : Int) (A : Option Addr) (n c : Nat) (l : List Int) : Prop :=
  ∀ T : Int, 0 ≤ T → T ≤ 1073741824 → ∃ k : Int, (th ≤ k ↔ t ≤ T) ∧ ∀ w', Row w' A n l → Calls Try.prog 57 #[.agg #[.int .i64 z, .slice A n c], .int .i64 L, .int .i64 T] w' fun e w'' => e = .returned (.tuple #[.int .i64 k, .int .i64 0]) ∧ Below w'.heap.size w' w''

set_option maxRecDepth 100000 in
set_option maxHeartbeats 2000000 in
theorem when_large (z L th t : Int) (A : Option Addr) (n c : Nat) (l : List Int) (w : World) (hr : Row w A n l) (hz : 1 ≤ z ∧ z ≤ 64) (hn : (n : Int) ≤ z) (h0 : 0 < n) (hb : Btw 0 16777216 l) (hL : 1 ≤ L ∧ L ≤ 16777216) (hth : 1 ≤ th ∧ th ≤ 60)
    (ha : Asks z L th t A n c l) (ht : 1073741824 < t) :
    Calls Try.prog 60 #[.agg #[.int .i64 z, .slice A n c], .int .i64 L, .int .i64 th] w fun e w' => e = .returned (.tuple #[.int .i64 0, .int .i64 2]) ∧ Below w.heap.size w w' := by
  have hlook : ∀ w', Row w' A n l → _ := fun w' h => look_ok z L A n c l w' h hz hn h0 hb hL
  obtain ⟨k, hk, hof⟩ := ha 1073741824 (by omega) (Int.le_refl _)
  have hkt : k < th := by
    rcases Int.lt_or_le k th with q | q
    · exact q
    · have := hk.1 q; omega
  have HLook := Lib.hid hlook
  have HOf := Lib.hid hof
  have HR := Lib.hid hr
  obtain ⟨t1, t2⟩ := hth
  have hkd : decide (k < th) = true := by simpa using hkt
  have qa := alloc_cells
  have qf := alloc_frozens
  clear hlook hof hr hb ha hk
  go_enter Try.func60, Try.ntmps60
  go_wp2_with fail
  refine (HLook.out _ (HR.out.below (by repeat (first | (with_reducible exact Below.refl _ _) | ((with_reducible refine Below.alloc ?_ ?_ _); rotate_left; (next => ((try dsimp only); (try simp only [World.size_alloc, World.size_setCell, World.size_drew]); omega))) | ((with_reducible refine Below.setCell ?_ ?_ _); rotate_left; (next => ((try dsimp only); (try simp only [World.size_alloc, World.size_setCell, World.size_drew]); omega))) | (with_reducible refine Below.drew ?_) | (refine Below.trans ?_ (by assumption)))))).mono ?_
  rintro e w1 ⟨rfl, hb1⟩
  have z1 := hb1.size
  have c1 := Below.cells hb1
  have f1 := Below.frozens hb1
  try simp only [World.size_alloc, World.size_setCell, World.size_drew] at z1 c1 f1
  go_wp2_with fail
  refine (HOf.out _ (HR.out.below (by repeat (first | (with_reducible exact Below.refl _ _) | ((with_reducible refine Below.alloc ?_ ?_ _); rotate_left; (next => ((try dsimp only); (try simp only [World.size_alloc, World.size_setCell, World.size_drew]); omega))) | ((with_reducible refine Below.setCell ?_ ?_ _); rotate_left; (next => ((try dsimp only); (try simp only [World.size_alloc, World.size_setCell, World.size_drew]); omega))) | (with_reducible refine Below.drew ?_) | ((with_reducible refine Below.trans ?_ (Below.mono hb1 ?_)); rotate_left; (next => ((try dsimp only); (try simp only [World.size_alloc, World.size_setCell, World.size_drew]); omega))))))).mono ?_
  rintro e w2 ⟨rfl, hb2⟩
  have z2 := hb2.size
  have c2 := Below.cells hb2
  have f2 := Below.frozens hb2
  try simp only [World.size_alloc, World.size_setCell, World.size_drew] at z2 c2 f2
  go_wp2_with fail
  go_ret2
  exact ⟨rfl, (by repeat (first | (with_reducible exact Below.refl _ _) | ((with_reducible refine Below.alloc ?_ ?_ _); rotate_left; (next => ((try dsimp only); (try simp only [World.size_alloc, World.size_setCell, World.size_drew]); omega))) | ((with_reducible refine Below.setCell ?_ ?_ _); rotate_left; (next => ((try dsimp only); (try simp only [World.size_alloc, World.size_setCell, World.size_drew]); omega))) | (with_reducible refine Below.drew ?_) | ((with_reducible refine Below.trans ?_ (Below.mono hb2 ?_)); rotate_left; (next => ((try dsimp only); (try simp only [World.size_alloc, World.size_setCell, World.size_drew]); omega))) | ((with_reducible refine Below.trans ?_ (Below.mono hb1 ?_)); rotate_left; (next => ((try dsimp only); (try simp only [World.size_alloc, World.size_setCell, World.size_drew]); omega)))))⟩

set_option maxRecDepth 100000 in
set_option maxHeartbeats 4000000 in
theorem when_ok (z L th t : Int) (A : Option Addr) (n c : Nat) (l : List Int) (w : World) (hr : Row w A n l) (hz : 1 ≤ z ∧ z ≤ 64) (hn : (n : Int) ≤ z) (h0 : 0 < n) (hb : Btw 0 16777216 l) (hL : 1 ≤ L ∧ L ≤ 16777216) (hth : 1 ≤ th ∧ th ≤ 60)
    (ha : Asks z L th t A n c l) (ht : 0 ≤ t ∧ t ≤ 1073741824) :
    Calls Try.prog 60 #[.agg #[.int .i64 z, .slice A n c], .int .i64 L, .int .i64 th] w fun e w' => e = .returned (.tuple #[.int .i64 t, .int .i64 0]) ∧ Below w.heap.size w w' := by
  have hlook : ∀ w', Row w' A n l → _ := fun w' h => look_ok z L A n c l w' h hz hn h0 hb hL
  obtain ⟨k, hk, hof⟩ := ha 1073741824 (by omega) (Int.le_refl _)
  have hkt : th ≤ k := hk.2 ht.2
  have HLook := Lib.hid hlook
  have HOf := Lib.hid hof
  have HR := Lib.hid hr
  have HA := Lib.hid ha
  obtain ⟨t1, t2⟩ := hth
  obtain ⟨ta, tb⟩ := ht
  have hkd : decide (k < th) = false := by simpa using hkt
  have qa := alloc_cells
  have qf := alloc_frozens
  clear hlook hof hr hb ha hk
  go_enter Try.func60, Try.ntmps60
  go_wp2_with fail
  refine (HLook.out _ (HR.out.below (by repeat (first | (with_reducible exact Below.refl _ _) | ((with_reducible refine Below.alloc ?_ ?_ _); rotate_left; (next => ((try dsimp only); (try simp only [World.size_alloc, World.size_setCell, World.size_drew]); omega))) | ((with_reducible refine Below.setCell ?_ ?_ _); rotate_left; (next => ((try dsimp only); (try simp only [World.size_alloc, World.size_setCell, World.size_drew]); omega))) | (with_reducible refine Below.drew ?_) | (refine Below.trans ?_ (by assumption)))))).mono ?_
  rintro e w1 ⟨rfl, hb1⟩
  have z1 := hb1.size
  have c1 := Below.cells hb1
  have f1 := Below.frozens hb1
  try simp only [World.size_alloc, World.size_setCell, World.size_drew] at z1 c1 f1
  go_wp2_with fail
  refine (HOf.out _ (HR.out.below (by repeat (first | (with_reducible exact Below.refl _ _) | ((with_reducible refine Below.alloc ?_ ?_ _); rotate_left; (next => ((try dsimp only); (try simp only [World.size_alloc, World.size_setCell, World.size_drew]); omega))) | ((with_reducible refine Below.setCell ?_ ?_ _); rotate_left; (next => ((try dsimp only); (try simp only [World.size_alloc, World.size_setCell, World.size_drew]); omega))) | (with_reducible refine Below.drew ?_) | ((with_reducible refine Below.trans ?_ (Below.mono hb1 ?_)); rotate_left; (next => ((try dsimp only); (try simp only [World.size_alloc, World.size_setCell, World.size_drew]); omega))))))).mono ?_
  rintro e w2 ⟨rfl, hb2⟩
  have z2 := hb2.size
  have c2 := Below.cells hb2
  have f2 := Below.frozens hb2
  try simp only [World.size_alloc, World.size_setCell, World.size_drew] at z2 c2 f2
  go_wp2_with fail
  go_loopw [9, 10] (fun p q wr => ∃ x y : Int, p = .int .i64 x ∧ q = .int .i64 y ∧ -1 ≤ x ∧ x < t ∧ t ≤ y ∧ y ≤ 1073741824 ∧ wr.cell? ⟨w.heap.size, 0, none⟩ = some (.int .i64 z) ∧ wr.cell? ⟨w.heap.size, 1, none⟩ = some (.slice A n c) ∧ w.heap.size + 1 ≤ wr.heap.size ∧ Below w.heap.size w wr)
    (fun p q _ => (intOf q - intOf p).toNat)
  case atStart => exact ⟨-1, 1073741824, rfl, rfl, by omega, by omega, tb, Int.le_refl _, by simp [go_sem, ↓IntWalk.iteOmega, *], by simp [go_sem, ↓IntWalk.iteOmega, *], by omega, (by repeat (first | (with_reducible exact Below.refl _ _) | ((with_reducible refine Below.alloc ?_ ?_ _); rotate_left; (next => ((try dsimp only); (try simp only [World.size_alloc, World.size_setCell, World.size_drew]); omega))) | ((with_reducible refine Below.setCell ?_ ?_ _); rotate_left; (next => ((try dsimp only); (try simp only [World.size_alloc, World.size_setCell, World.size_drew]); omega))) | (with_reducible refine Below.drew ?_) | ((with_reducible refine Below.trans ?_ (Below.mono hb2 ?_)); rotate_left; (next => ((try dsimp only); (try simp only [World.size_alloc, World.size_setCell, World.size_drew]); omega))) | ((with_reducible refine Below.trans ?_ (Below.mono hb1 ?_)); rotate_left; (next => ((try dsimp only); (try simp only [World.size_alloc, World.size_setCell, World.size_drew]); omega)))))⟩
  case round =>
    obtain ⟨x, y, rfl, rfl, x0, xt, ty, y1, k0, k1, sz, bel⟩ := hrel
    clear c1 f1 z1 hb1 c2 f2 z2 hb2
    by_cases hlt : 1 < y - x
    · obtain ⟨m, hm⟩ : ∃ m, (x + y) / 2 = m := ⟨_, rfl⟩
      have mb : x < m ∧ m < y ∧ 0 ≤ m := by omega
      obtain ⟨j, hj, hofj⟩ := HA.out m (by omega) (by omega)
      have HOj := Lib.hid hofj
      by_cases hc : th ≤ j
      · have tm := hj.1 hc
        clear hj hofj
        go_wp2_with fail
        refine (HOj.out _ (HR.out.below (by repeat (first | (with_reducible exact Below.refl _ _) | ((with_reducible refine Below.alloc ?_ ?_ _); rotate_left; (next => ((try dsimp only); (try simp only [World.size_alloc, World.size_setCell, World.size_drew]); omega))) | ((with_reducible refine Below.setCell ?_ ?_ _); rotate_left; (next => ((try dsimp only); (try simp only [World.size_alloc, World.size_setCell, World.size_drew]); omega))) | (with_reducible refine Below.drew ?_) | (with_reducible exact bel))))).mono ?_
        rintro e w3 ⟨rfl, hb3⟩
        have z3 := hb3.size
        have c3 := Below.cells hb3
        have f3 := Below.frozens hb3
        try simp only [World.size_alloc, World.size_setCell, World.size_drew] at z3 c3 f3
        go_wp2_with fail
        go_roundw
        case rel => exact ⟨x, m, rfl, rfl, x0, xt, tm, by omega, by simp [go_sem, ↓IntWalk.iteOmega, *], by simp [go_sem, ↓IntWalk.iteOmega, *], by omega, (by repeat (first | (with_reducible exact Below.refl _ _) | ((with_reducible refine Below.alloc ?_ ?_ _); rotate_left; (next => ((try dsimp only); (try simp only [World.size_alloc, World.size_setCell, World.size_drew]); omega))) | ((with_reducible refine Below.setCell ?_ ?_ _); rotate_left; (next => ((try dsimp only); (try simp only [World.size_alloc, World.size_setCell, World.size_drew]); omega))) | (with_reducible refine Below.drew ?_) | ((with_reducible refine Below.trans ?_ (Below.mono hb3 ?_)); rotate_left; (next => ((try dsimp only); (try simp only [World.size_alloc, World.size_setCell, World.size_drew]); omega))) | (with_reducible exact bel)))⟩
        case measure => simp [intOf]; omega
      · have tm : m < t := by
          rcases Int.lt_or_le m t with q | q
          · exact q
          · exact absurd (hj.2 q) hc
        clear hj hofj
        go_wp2_with fail
        refine (HOj.out _ (HR.out.below (by repeat (first | (with_reducible exact Below.refl _ _) | ((with_reducible refine Below.alloc ?_ ?_ _); rotate_left; (next => ((try dsimp only); (try simp only [World.size_alloc, World.size_setCell, World.size_drew]); omega))) | ((with_reducible refine Below.setCell ?_ ?_ _); rotate_left; (next => ((try dsimp only); (try simp only [World.size_alloc, World.size_setCell, World.size_drew]); omega))) | (with_reducible refine Below.drew ?_) | (with_reducible exact bel))))).mono ?_
        rintro e w3 ⟨rfl, hb3⟩
        have z3 := hb3.size
        have c3 := Below.cells hb3
        have f3 := Below.frozens hb3
        try simp only [World.size_alloc, World.size_setCell, World.size_drew] at z3 c3 f3
        go_wp2_with fail
        go_roundw
        case rel => exact ⟨m, y, rfl, rfl, by omega, tm, ty, y1, by simp [go_sem, ↓IntWalk.iteOmega, *], by simp [go_sem, ↓IntWalk.iteOmega, *], by omega, (by repeat (first | (with_reducible exact Below.refl _ _) | ((with_reducible refine Below.alloc ?_ ?_ _); rotate_left; (next => ((try dsimp only); (try simp only [World.size_alloc, World.size_setCell, World.size_drew]); omega))) | ((with_reducible refine Below.setCell ?_ ?_ _); rotate_left; (next => ((try dsimp only); (try simp only [World.size_alloc, World.size_setCell, World.size_drew]); omega))) | (with_reducible refine Below.drew ?_) | ((with_reducible refine Below.trans ?_ (Below.mono hb3 ?_)); rotate_left; (next => ((try dsimp only); (try simp only [World.size_alloc, World.size_setCell, World.size_drew]); omega))) | (with_reducible exact bel)))⟩
        case measure => simp [intOf]; omega
    · obtain rfl : y = t := by omega
      go_wp2_with fail
      go_ret2
      exact ⟨rfl, (by repeat (first | (with_reducible exact Below.refl _ _) | ((with_reducible refine Below.alloc ?_ ?_ _); rotate_left; (next => ((try dsimp only); (try simp only [World.size_alloc, World.size_setCell, World.size_drew]); omega))) | ((with_reducible refine Below.setCell ?_ ?_ _); rotate_left; (next => ((try dsimp only); (try simp only [World.size_alloc, World.size_setCell, World.size_drew]); omega))) | (with_reducible refine Below.drew ?_) | (with_reducible exact bel)))⟩
end Go.Proofs.Ytgiipelonojgaaa

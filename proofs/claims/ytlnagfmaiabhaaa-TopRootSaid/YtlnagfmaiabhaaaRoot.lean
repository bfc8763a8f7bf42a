/-
  The walk of root.Root.
-/
import Derived.Test.YtlnagfmaiabhaaaDiv
import Derived.Test.YtlnagfmaiabhaaaRt
set_option linter.unusedSimpArgs false
set_option linter.unusedVariables false
namespace Go.Proofs.Ytlnagfmaiabhaaa
open Go.RowKit

set_option maxHeartbeats 1000000 in
theorem root_small (a : Int) (h : a < 2) (h0 : 0 ≤ a) (w : World) :
    Calls Try.prog 26 #[.agg #[.int .u64 0, .int .u64 a]] w fun e w' => e = .returned (.int .u64 a) ∧ Below w.heap.size w w' := by
  go_enter Try.func26, Try.ntmps26
  go_wp2_with fail
  go_ret
  exact ⟨rfl, (by repeat (first | (with_reducible exact Below.refl _ _) | ((with_reducible refine Below.alloc ?_ ?_ _); rotate_left; (next => ((try dsimp only); (try simp only [World.size_alloc, World.size_setCell, World.size_drew]); omega))) | ((with_reducible refine Below.setCell ?_ ?_ _); rotate_left; (next => ((try dsimp only); (try simp only [World.size_alloc, World.size_setCell, World.size_drew]); omega))) | (with_reducible refine Below.drew ?_) | (refine Below.trans ?_ (by assumption))))⟩

/-- Newton's loop from the guess x0. -/
def RootGo (a s : Int) (x : Int) : Prop := s ≤ x ∧ 1 ≤ x ∧ x ≤ 18446744073709551615

set_option maxRecDepth 100000 in
set_option maxHeartbeats 8000000 in
theorem root_big (a s : Int) {ah al : Int} (ha : Wd a ah al) (h2 : 2 ≤ a) (hs : IsRoot a s) (w : World) :
    Calls Try.prog 26 #[.agg #[.int .u64 ah, .int .u64 al]] w fun e w' => e = .returned (.int .u64 s) ∧ Below w.heap.size w w' := by
  have ua := ha.1
  have s1 : 1 ≤ s := by
    obtain ⟨a0, a1, a2⟩ := hs
    rcases Int.lt_or_le 0 s with c | c
    · omega
    · obtain rfl : s = 0 := by omega
      omega
  have su := isRoot_u64 hs ua
  have hg := root_guess hs ua (by omega)
  have lb := blen_bd ua
  have hlen := fun w => len_any a ha w
  have hn : (¬ ah = 0) ∨ (ah = 0 ∧ ¬ al < 2) := by
    obtain ⟨a1, rfl, rfl⟩ := ha
    unfold U128 hi lo at *; omega
  obtain ⟨B, hB⟩ : ∃ B, blen a = B := ⟨_, rfl⟩
  rw [hB] at hg lb
  have hx0 : ∃ x0 : Int, s ≤ x0 ∧ x0 ≤ 18446744073709551615 ∧ ((¬ B < 127 ∧ x0 = 18446744073709551615) ∨ (B < 127 ∧ IntKind.u64.wrap (2 ^ ((B + 1) / 2).toNat) = x0)) := by
    by_cases c : B < 127
    · have p := p2 ((B + 1) / 2).toNat
      have q : (2 : Int) ^ ((B + 1) / 2).toNat ≤ 2 ^ 63 := by
        rcases Nat.lt_or_eq_of_le (show ((B + 1) / 2).toNat ≤ 63 by omega) with q | q
        · have := pow_lt_pow q; omega
        · rw [q]; exact Int.le_refl _
      have e : (2 : Int) ^ 63 = 9223372036854775808 := rfl
      refine ⟨2 ^ ((B + 1) / 2).toNat, hg, by omega, .inr ⟨c, ?_⟩⟩
      rw [IntKind.wrap_u64]; omega
    · exact ⟨_, su, Int.le_refl _, .inl ⟨c, rfl⟩⟩
  obtain ⟨x0, x1, x2, hx⟩ := hx0
  have hdiv : ∀ x q r : Int, 1 ≤ x → x ≤ 18446744073709551615 → a / x = q → a % x = r → ∀ w, _ := fun x q r h1 h2 hq hr w => div_ok a x q r ha (Wd.lit (by unfold U64; omega)) (by omega) hq hr w
  have HS := Lib.hid hs
  have HUa := Lib.hid ua
  have HBB := Lib.hid hB
  have HDv := Lib.hid hdiv
  clear hs hg ha ua hB hdiv
  have qa := alloc_cells
  have qf := alloc_frozens
  rcases hn with hn | ⟨rfl, hn⟩
  · have hnb : (ah == 0) = false := by simpa using hn
    have HLen := Lib.hid hlen
    clear hlen
    rcases hx with ⟨hl, rfl⟩ | ⟨hl, hp⟩
    · have hld : decide (B < 127) = false := by simpa using hl
      go_enter Try.func26, Try.ntmps26
      go_wp2_with fail
      refine (HLen.out _).mono ?_
      rintro e w1 ⟨rfl, hb1⟩
      rw [HBB.out]
      have z1 := hb1.size
      have c1 := Below.cells hb1
      have f1 := Below.frozens hb1
      try simp only [World.size_alloc, World.size_setCell, World.size_drew] at z1 c1 f1
      go_wp2_with fail
      go_loopw [3] (fun v wr => ∃ x : Int, v = .int .u64 x ∧ s ≤ x ∧ x ≤ 18446744073709551615 ∧ wr.cell? ⟨w.heap.size, 0, none⟩ = some (.int .u64 ah) ∧ wr.cell? ⟨w.heap.size, 1, none⟩ = some (.int .u64 al) ∧ w.heap.size + 1 ≤ wr.heap.size ∧ Below w.heap.size w wr) (fun v _ => (intOf v).toNat)
      case atStart => exact ⟨_, rfl, x1, x2, by simp [go_sem, ↓IntWalk.iteOmega, *], by simp [go_sem, ↓IntWalk.iteOmega, *], by omega, (by repeat (first | (with_reducible exact Below.refl _ _) | ((with_reducible refine Below.alloc ?_ ?_ _); rotate_left; (next => ((try dsimp only); (try simp only [World.size_alloc, World.size_setCell, World.size_drew]); omega))) | ((with_reducible refine Below.setCell ?_ ?_ _); rotate_left; (next => ((try dsimp only); (try simp only [World.size_alloc, World.size_setCell, World.size_drew]); omega))) | (with_reducible refine Below.drew ?_) | ((with_reducible refine Below.trans ?_ (Below.mono hb1 ?_)); rotate_left; (next => ((try dsimp only); (try simp only [World.size_alloc, World.size_setCell, World.size_drew]); omega)))))⟩
      case round =>
        obtain ⟨x, rfl, xs, xu, k0, k1, sz, bel⟩ := hrel
        clear c1 f1 z1 hb1
        obtain ⟨q, hq⟩ : ∃ q, a / x = q := ⟨_, rfl⟩
        obtain ⟨r, hr⟩ : ∃ r, a % x = r := ⟨_, rfl⟩
        obtain ⟨y, hy⟩ : ∃ y, (q + x) / 2 = y := ⟨_, rfl⟩
        have f0 := newton_ge HS.out (by omega) hq
        have f1 : x ≤ y → x = s := fun h => newton_end HS.out (by omega) xs hq (by omega)
        have q0 : 0 ≤ q := by rw [← hq]; exact Int.ediv_nonneg HUa.out.1 (by omega)
        have q1 : q < 340282366920938463463374607431768211455 - 18446744073709551615 := by
          have e1 : a < (x + 1) * (x + 1) := by
            have := HS.out.2.2
            have : (s + 1) * (s + 1) ≤ (x + 1) * (x + 1) := Int.mul_le_mul (by omega) (by omega) (by omega) (by omega)
            omega
          have e2 : (x + 1) * (x + 1) = (x + 2) * x + 1 := by grind
          have e3 : q < x + 3 := by rw [← hq]; exact Int.ediv_lt_of_lt_mul (by omega) (by rw [e2] at e1; rw [Int.add_mul] at e1 ⊢; omega)
          omega
        have uq : U128 q := by unfold U128; omega
        have ux : U64 x := by unfold U64; omega
        have uqx : U128 (q + x) := by unfold U128; omega
        have d1 : ∀ w, _ := fun w => HDv.out x q r (by omega) xu hq hr w
        have d2 : ∀ w, _ := fun w => add_ok q x (q + x) (Wd.mk uq) (Wd.lit ux) rfl uqx w
        have d3 : ∀ w, _ := fun w => shr_any (q + x) 1 (Wd.mk uqx) w (by omega) (by omega)
        rw [show (2 : Int) ^ (1 : Int).toNat = 2 from rfl, hy] at d3
        rw [hy] at f0
        have D1 := Lib.hid d1
        have D2 := Lib.hid d2
        have cs : (y < x ∧ hi y = 0 ∧ lo y = y) ∨ (x ≤ y ∧ hi y = 0 ∧ lo y = y) ∨ (x ≤ y ∧ 0 < hi y) := by unfold hi lo; omega
        clear d1 d2 hq hr hy uq ux uqx
        rcases cs with ⟨c, c1, c2⟩ | ⟨c, c1, c2⟩ | ⟨c, c1⟩
        · rw [c1, c2] at d3
          have D3 := Lib.hid d3
          clear d3 c1 c2 f1
          go_wp2_with fail
          refine (D1.out _).mono ?_
          rintro e w3 ⟨rfl, hb3⟩
          have z3 := hb3.size
          have c3 := Below.cells hb3
          have f3 := Below.frozens hb3
          try simp only [World.size_alloc, World.size_setCell, World.size_drew] at z3 c3 f3
          go_wp2_with fail
          refine (D2.out _).mono ?_
          rintro e w4 ⟨rfl, hb4⟩
          have z4 := hb4.size
          have c4 := Below.cells hb4
          have f4 := Below.frozens hb4
          try simp only [World.size_alloc, World.size_setCell, World.size_drew] at z4 c4 f4
          go_wp2_with fail
          refine (D3.out _).mono ?_
          rintro e w5 ⟨rfl, hb5⟩
          have z5 := hb5.size
          have c5 := Below.cells hb5
          have f5 := Below.frozens hb5
          try simp only [World.size_alloc, World.size_setCell, World.size_drew] at z5 c5 f5
          go_wp2_with fail
          go_roundw
          case rel => exact ⟨y, rfl, f0, by omega, by simp [go_sem, ↓IntWalk.iteOmega, *], by simp [go_sem, ↓IntWalk.iteOmega, *], by simp only [World.size_alloc, World.size_setCell]; omega, (by repeat (first | (with_reducible exact Below.refl _ _) | ((with_reducible refine Below.alloc ?_ ?_ _); rotate_left; (next => ((try dsimp only); (try simp only [World.size_alloc, World.size_setCell, World.size_drew]); omega))) | ((with_reducible refine Below.setCell ?_ ?_ _); rotate_left; (next => ((try dsimp only); (try simp only [World.size_alloc, World.size_setCell, World.size_drew]); omega))) | (with_reducible refine Below.drew ?_) | ((with_reducible refine Below.trans ?_ (Below.mono hb5 ?_)); rotate_left; (next => ((try dsimp only); (try simp only [World.size_alloc, World.size_setCell, World.size_drew]); omega))) | ((with_reducible refine Below.trans ?_ (Below.mono hb4 ?_)); rotate_left; (next => ((try dsimp only); (try simp only [World.size_alloc, World.size_setCell, World.size_drew]); omega))) | ((with_reducible refine Below.trans ?_ (Below.mono hb3 ?_)); rotate_left; (next => ((try dsimp only); (try simp only [World.size_alloc, World.size_setCell, World.size_drew]); omega))) | (with_reducible exact bel)))⟩
          case measure => simp [intOf]; omega
        · rw [c1, c2] at d3
          have D3 := Lib.hid d3
          clear d3 c1 c2
          obtain rfl := f1 c
          go_wp2_with fail
          refine (D1.out _).mono ?_
          rintro e w3 ⟨rfl, hb3⟩
          have z3 := hb3.size
          have c3 := Below.cells hb3
          have f3 := Below.frozens hb3
          try simp only [World.size_alloc, World.size_setCell, World.size_drew] at z3 c3 f3
          go_wp2_with fail
          refine (D2.out _).mono ?_
          rintro e w4 ⟨rfl, hb4⟩
          have z4 := hb4.size
          have c4 := Below.cells hb4
          have f4 := Below.frozens hb4
          try simp only [World.size_alloc, World.size_setCell, World.size_drew] at z4 c4 f4
          go_wp2_with fail
          refine (D3.out _).mono ?_
          rintro e w5 ⟨rfl, hb5⟩
          have z5 := hb5.size
          have c5 := Below.cells hb5
          have f5 := Below.frozens hb5
          try simp only [World.size_alloc, World.size_setCell, World.size_drew] at z5 c5 f5
          go_wp2_with fail
          go_ret
          exact ⟨rfl, (by repeat (first | (with_reducible exact Below.refl _ _) | ((with_reducible refine Below.alloc ?_ ?_ _); rotate_left; (next => ((try dsimp only); (try simp only [World.size_alloc, World.size_setCell, World.size_drew]); omega))) | ((with_reducible refine Below.setCell ?_ ?_ _); rotate_left; (next => ((try dsimp only); (try simp only [World.size_alloc, World.size_setCell, World.size_drew]); omega))) | (with_reducible refine Below.drew ?_) | ((with_reducible refine Below.trans ?_ (Below.mono hb5 ?_)); rotate_left; (next => ((try dsimp only); (try simp only [World.size_alloc, World.size_setCell, World.size_drew]); omega))) | ((with_reducible refine Below.trans ?_ (Below.mono hb4 ?_)); rotate_left; (next => ((try dsimp only); (try simp only [World.size_alloc, World.size_setCell, World.size_drew]); omega))) | ((with_reducible refine Below.trans ?_ (Below.mono hb3 ?_)); rotate_left; (next => ((try dsimp only); (try simp only [World.size_alloc, World.size_setCell, World.size_drew]); omega))) | (with_reducible exact bel)))⟩
        · have D3 := Lib.hid d3
          clear d3
          obtain rfl := f1 c
          go_wp2_with fail
          refine (D1.out _).mono ?_
          rintro e w3 ⟨rfl, hb3⟩
          have z3 := hb3.size
          have c3 := Below.cells hb3
          have f3 := Below.frozens hb3
          try simp only [World.size_alloc, World.size_setCell, World.size_drew] at z3 c3 f3
          go_wp2_with fail
          refine (D2.out _).mono ?_
          rintro e w4 ⟨rfl, hb4⟩
          have z4 := hb4.size
          have c4 := Below.cells hb4
          have f4 := Below.frozens hb4
          try simp only [World.size_alloc, World.size_setCell, World.size_drew] at z4 c4 f4
          go_wp2_with fail
          refine (D3.out _).mono ?_
          rintro e w5 ⟨rfl, hb5⟩
          have z5 := hb5.size
          have c5 := Below.cells hb5
          have f5 := Below.frozens hb5
          try simp only [World.size_alloc, World.size_setCell, World.size_drew] at z5 c5 f5
          go_wp2_with fail
          go_ret
          exact ⟨rfl, (by repeat (first | (with_reducible exact Below.refl _ _) | ((with_reducible refine Below.alloc ?_ ?_ _); rotate_left; (next => ((try dsimp only); (try simp only [World.size_alloc, World.size_setCell, World.size_drew]); omega))) | ((with_reducible refine Below.setCell ?_ ?_ _); rotate_left; (next => ((try dsimp only); (try simp only [World.size_alloc, World.size_setCell, World.size_drew]); omega))) | (with_reducible refine Below.drew ?_) | ((with_reducible refine Below.trans ?_ (Below.mono hb5 ?_)); rotate_left; (next => ((try dsimp only); (try simp only [World.size_alloc, World.size_setCell, World.size_drew]); omega))) | ((with_reducible refine Below.trans ?_ (Below.mono hb4 ?_)); rotate_left; (next => ((try dsimp only); (try simp only [World.size_alloc, World.size_setCell, World.size_drew]); omega))) | ((with_reducible refine Below.trans ?_ (Below.mono hb3 ?_)); rotate_left; (next => ((try dsimp only); (try simp only [World.size_alloc, World.size_setCell, World.size_drew]); omega))) | (with_reducible exact bel)))⟩
    · have hld : decide (B < 127) = true := by simpa using hl
      go_enter Try.func26, Try.ntmps26
      go_wp2_with fail
      refine (HLen.out _).mono ?_
      rintro e w1 ⟨rfl, hb1⟩
      rw [HBB.out]
      have z1 := hb1.size
      have c1 := Below.cells hb1
      have f1 := Below.frozens hb1
      try simp only [World.size_alloc, World.size_setCell, World.size_drew] at z1 c1 f1
      go_wp2_with fail
      refine (HLen.out _).mono ?_
      rintro e w2 ⟨rfl, hb2⟩
      rw [HBB.out]
      have z2 := hb2.size
      have c2 := Below.cells hb2
      have f2 := Below.frozens hb2
      try simp only [World.size_alloc, World.size_setCell, World.size_drew] at z2 c2 f2
      go_wp2_with fail
      go_loopw [3] (fun v wr => ∃ x : Int, v = .int .u64 x ∧ s ≤ x ∧ x ≤ 18446744073709551615 ∧ wr.cell? ⟨w.heap.size, 0, none⟩ = some (.int .u64 ah) ∧ wr.cell? ⟨w.heap.size, 1, none⟩ = some (.int .u64 al) ∧ w.heap.size + 1 ≤ wr.heap.size ∧ Below w.heap.size w wr) (fun v _ => (intOf v).toNat)
      case atStart => exact ⟨_, rfl, x1, x2, by simp [go_sem, ↓IntWalk.iteOmega, *], by simp [go_sem, ↓IntWalk.iteOmega, *], by omega, (by repeat (first | (with_reducible exact Below.refl _ _) | ((with_reducible refine Below.alloc ?_ ?_ _); rotate_left; (next => ((try dsimp only); (try simp only [World.size_alloc, World.size_setCell, World.size_drew]); omega))) | ((with_reducible refine Below.setCell ?_ ?_ _); rotate_left; (next => ((try dsimp only); (try simp only [World.size_alloc, World.size_setCell, World.size_drew]); omega))) | (with_reducible refine Below.drew ?_) | ((with_reducible refine Below.trans ?_ (Below.mono hb2 ?_)); rotate_left; (next => ((try dsimp only); (try simp only [World.size_alloc, World.size_setCell, World.size_drew]); omega))) | ((with_reducible refine Below.trans ?_ (Below.mono hb1 ?_)); rotate_left; (next => ((try dsimp only); (try simp only [World.size_alloc, World.size_setCell, World.size_drew]); omega)))))⟩
      case round =>
        obtain ⟨x, rfl, xs, xu, k0, k1, sz, bel⟩ := hrel
        clear c1 f1 z1 hb1 c2 f2 z2 hb2
        obtain ⟨q, hq⟩ : ∃ q, a / x = q := ⟨_, rfl⟩
        obtain ⟨r, hr⟩ : ∃ r, a % x = r := ⟨_, rfl⟩
        obtain ⟨y, hy⟩ : ∃ y, (q + x) / 2 = y := ⟨_, rfl⟩
        have f0 := newton_ge HS.out (by omega) hq
        have f1 : x ≤ y → x = s := fun h => newton_end HS.out (by omega) xs hq (by omega)
        have q0 : 0 ≤ q := by rw [← hq]; exact Int.ediv_nonneg HUa.out.1 (by omega)
        have q1 : q < 340282366920938463463374607431768211455 - 18446744073709551615 := by
          have e1 : a < (x + 1) * (x + 1) := by
            have := HS.out.2.2
            have : (s + 1) * (s + 1) ≤ (x + 1) * (x + 1) := Int.mul_le_mul (by omega) (by omega) (by omega) (by omega)
            omega
          have e2 : (x + 1) * (x + 1) = (x + 2) * x + 1 := by grind
          have e3 : q < x + 3 := by rw [← hq]; exact Int.ediv_lt_of_lt_mul (by omega) (by rw [e2] at e1; rw [Int.add_mul] at e1 ⊢; omega)
          omega
        have uq : U128 q := by unfold U128; omega
        have ux : U64 x := by unfold U64; omega
        have uqx : U128 (q + x) := by unfold U128; omega
        have d1 : ∀ w, _ := fun w => HDv.out x q r (by omega) xu hq hr w
        have d2 : ∀ w, _ := fun w => add_ok q x (q + x) (Wd.mk uq) (Wd.lit ux) rfl uqx w
        have d3 : ∀ w, _ := fun w => shr_any (q + x) 1 (Wd.mk uqx) w (by omega) (by omega)
        rw [show (2 : Int) ^ (1 : Int).toNat = 2 from rfl, hy] at d3
        rw [hy] at f0
        have D1 := Lib.hid d1
        have D2 := Lib.hid d2
        have cs : (y < x ∧ hi y = 0 ∧ lo y = y) ∨ (x ≤ y ∧ hi y = 0 ∧ lo y = y) ∨ (x ≤ y ∧ 0 < hi y) := by unfold hi lo; omega
        clear d1 d2 hq hr hy uq ux uqx
        rcases cs with ⟨c, c1, c2⟩ | ⟨c, c1, c2⟩ | ⟨c, c1⟩
        · rw [c1, c2] at d3
          have D3 := Lib.hid d3
          clear d3 c1 c2 f1
          go_wp2_with fail
          refine (D1.out _).mono ?_
          rintro e w3 ⟨rfl, hb3⟩
          have z3 := hb3.size
          have c3 := Below.cells hb3
          have f3 := Below.frozens hb3
          try simp only [World.size_alloc, World.size_setCell, World.size_drew] at z3 c3 f3
          go_wp2_with fail
          refine (D2.out _).mono ?_
          rintro e w4 ⟨rfl, hb4⟩
          have z4 := hb4.size
          have c4 := Below.cells hb4
          have f4 := Below.frozens hb4
          try simp only [World.size_alloc, World.size_setCell, World.size_drew] at z4 c4 f4
          go_wp2_with fail
          refine (D3.out _).mono ?_
          rintro e w5 ⟨rfl, hb5⟩
          have z5 := hb5.size
          have c5 := Below.cells hb5
          have f5 := Below.frozens hb5
          try simp only [World.size_alloc, World.size_setCell, World.size_drew] at z5 c5 f5
          go_wp2_with fail
          go_roundw
          case rel => exact ⟨y, rfl, f0, by omega, by simp [go_sem, ↓IntWalk.iteOmega, *], by simp [go_sem, ↓IntWalk.iteOmega, *], by simp only [World.size_alloc, World.size_setCell]; omega, (by repeat (first | (with_reducible exact Below.refl _ _) | ((with_reducible refine Below.alloc ?_ ?_ _); rotate_left; (next => ((try dsimp only); (try simp only [World.size_alloc, World.size_setCell, World.size_drew]); omega))) | ((with_reducible refine Below.setCell ?_ ?_ _); rotate_left; (next => ((try dsimp only); (try simp only [World.size_alloc, World.size_setCell, World.size_drew]); omega))) | (with_reducible refine Below.drew ?_) | ((with_reducible refine Below.trans ?_ (Below.mono hb5 ?_)); rotate_left; (next => ((try dsimp only); (try simp only [World.size_alloc, World.size_setCell, World.size_drew]); omega))) | ((with_reducible refine Below.trans ?_ (Below.mono hb4 ?_)); rotate_left; (next => ((try dsimp only); (try simp only [World.size_alloc, World.size_setCell, World.size_drew]); omega))) | ((with_reducible refine Below.trans ?_ (Below.mono hb3 ?_)); rotate_left; (next => ((try dsimp only); (try simp only [World.size_alloc, World.size_setCell, World.size_drew]); omega))) | (with_reducible exact bel)))⟩
          case measure => simp [intOf]; omega
        · rw [c1, c2] at d3
          have D3 := Lib.hid d3
          clear d3 c1 c2
          obtain rfl := f1 c
          go_wp2_with fail
          refine (D1.out _).mono ?_
          rintro e w3 ⟨rfl, hb3⟩
          have z3 := hb3.size
          have c3 := Below.cells hb3
          have f3 := Below.frozens hb3
          try simp only [World.size_alloc, World.size_setCell, World.size_drew] at z3 c3 f3
          go_wp2_with fail
          refine (D2.out _).mono ?_
          rintro e w4 ⟨rfl, hb4⟩
          have z4 := hb4.size
          have c4 := Below.cells hb4
          have f4 := Below.frozens hb4
          try simp only [World.size_alloc, World.size_setCell, World.size_drew] at z4 c4 f4
          go_wp2_with fail
          refine (D3.out _).mono ?_
          rintro e w5 ⟨rfl, hb5⟩
          have z5 := hb5.size
          have c5 := Below.cells hb5
          have f5 := Below.frozens hb5
          try simp only [World.size_alloc, World.size_setCell, World.size_drew] at z5 c5 f5
          go_wp2_with fail
          go_ret
          exact ⟨rfl, (by repeat (first | (with_reducible exact Below.refl _ _) | ((with_reducible refine Below.alloc ?_ ?_ _); rotate_left; (next => ((try dsimp only); (try simp only [World.size_alloc, World.size_setCell, World.size_drew]); omega))) | ((with_reducible refine Below.setCell ?_ ?_ _); rotate_left; (next => ((try dsimp only); (try simp only [World.size_alloc, World.size_setCell, World.size_drew]); omega))) | (with_reducible refine Below.drew ?_) | ((with_reducible refine Below.trans ?_ (Below.mono hb5 ?_)); rotate_left; (next => ((try dsimp only); (try simp only [World.size_alloc, World.size_setCell, World.size_drew]); omega))) | ((with_reducible refine Below.trans ?_ (Below.mono hb4 ?_)); rotate_left; (next => ((try dsimp only); (try simp only [World.size_alloc, World.size_setCell, World.size_drew]); omega))) | ((with_reducible refine Below.trans ?_ (Below.mono hb3 ?_)); rotate_left; (next => ((try dsimp only); (try simp only [World.size_alloc, World.size_setCell, World.size_drew]); omega))) | (with_reducible exact bel)))⟩
        · have D3 := Lib.hid d3
          clear d3
          obtain rfl := f1 c
          go_wp2_with fail
          refine (D1.out _).mono ?_
          rintro e w3 ⟨rfl, hb3⟩
          have z3 := hb3.size
          have c3 := Below.cells hb3
          have f3 := Below.frozens hb3
          try simp only [World.size_alloc, World.size_setCell, World.size_drew] at z3 c3 f3
          go_wp2_with fail
          refine (D2.out _).mono ?_
          rintro e w4 ⟨rfl, hb4⟩
          have z4 := hb4.size
          have c4 := Below.cells hb4
          have f4 := Below.frozens hb4
          try simp only [World.size_alloc, World.size_setCell, World.size_drew] at z4 c4 f4
          go_wp2_with fail
          refine (D3.out _).mono ?_
          rintro e w5 ⟨rfl, hb5⟩
          have z5 := hb5.size
          have c5 := Below.cells hb5
          have f5 := Below.frozens hb5
          try simp only [World.size_alloc, World.size_setCell, World.size_drew] at z5 c5 f5
          go_wp2_with fail
          go_ret
          exact ⟨rfl, (by repeat (first | (with_reducible exact Below.refl _ _) | ((with_reducible refine Below.alloc ?_ ?_ _); rotate_left; (next => ((try dsimp only); (try simp only [World.size_alloc, World.size_setCell, World.size_drew]); omega))) | ((with_reducible refine Below.setCell ?_ ?_ _); rotate_left; (next => ((try dsimp only); (try simp only [World.size_alloc, World.size_setCell, World.size_drew]); omega))) | (with_reducible refine Below.drew ?_) | ((with_reducible refine Below.trans ?_ (Below.mono hb5 ?_)); rotate_left; (next => ((try dsimp only); (try simp only [World.size_alloc, World.size_setCell, World.size_drew]); omega))) | ((with_reducible refine Below.trans ?_ (Below.mono hb4 ?_)); rotate_left; (next => ((try dsimp only); (try simp only [World.size_alloc, World.size_setCell, World.size_drew]); omega))) | ((with_reducible refine Below.trans ?_ (Below.mono hb3 ?_)); rotate_left; (next => ((try dsimp only); (try simp only [World.size_alloc, World.size_setCell, World.size_drew]); omega))) | (with_reducible exact bel)))⟩
  · have HLen := Lib.hid hlen
    clear hlen
    rcases hx with ⟨hl, rfl⟩ | ⟨hl, hp⟩
    · have hld : decide (B < 127) = false := by simpa using hl
      go_enter Try.func26, Try.ntmps26
      go_wp2_with fail
      refine (HLen.out _).mono ?_
      rintro e w1 ⟨rfl, hb1⟩
      rw [HBB.out]
      have z1 := hb1.size
      have c1 := Below.cells hb1
      have f1 := Below.frozens hb1
      try simp only [World.size_alloc, World.size_setCell, World.size_drew] at z1 c1 f1
      go_wp2_with fail
      go_loopw [3] (fun v wr => ∃ x : Int, v = .int .u64 x ∧ s ≤ x ∧ x ≤ 18446744073709551615 ∧ wr.cell? ⟨w.heap.size, 0, none⟩ = some (.int .u64 0) ∧ wr.cell? ⟨w.heap.size, 1, none⟩ = some (.int .u64 al) ∧ w.heap.size + 1 ≤ wr.heap.size ∧ Below w.heap.size w wr) (fun v _ => (intOf v).toNat)
      case atStart => exact ⟨_, rfl, x1, x2, by simp [go_sem, ↓IntWalk.iteOmega, *], by simp [go_sem, ↓IntWalk.iteOmega, *], by omega, (by repeat (first | (with_reducible exact Below.refl _ _) | ((with_reducible refine Below.alloc ?_ ?_ _); rotate_left; (next => ((try dsimp only); (try simp only [World.size_alloc, World.size_setCell, World.size_drew]); omega))) | ((with_reducible refine Below.setCell ?_ ?_ _); rotate_left; (next => ((try dsimp only); (try simp only [World.size_alloc, World.size_setCell, World.size_drew]); omega))) | (with_reducible refine Below.drew ?_) | ((with_reducible refine Below.trans ?_ (Below.mono hb1 ?_)); rotate_left; (next => ((try dsimp only); (try simp only [World.size_alloc, World.size_setCell, World.size_drew]); omega)))))⟩
      case round =>
        obtain ⟨x, rfl, xs, xu, k0, k1, sz, bel⟩ := hrel
        clear c1 f1 z1 hb1
        obtain ⟨q, hq⟩ : ∃ q, a / x = q := ⟨_, rfl⟩
        obtain ⟨r, hr⟩ : ∃ r, a % x = r := ⟨_, rfl⟩
        obtain ⟨y, hy⟩ : ∃ y, (q + x) / 2 = y := ⟨_, rfl⟩
        have f0 := newton_ge HS.out (by omega) hq
        have f1 : x ≤ y → x = s := fun h => newton_end HS.out (by omega) xs hq (by omega)
        have q0 : 0 ≤ q := by rw [← hq]; exact Int.ediv_nonneg HUa.out.1 (by omega)
        have q1 : q < 340282366920938463463374607431768211455 - 18446744073709551615 := by
          have e1 : a < (x + 1) * (x + 1) := by
            have := HS.out.2.2
            have : (s + 1) * (s + 1) ≤ (x + 1) * (x + 1) := Int.mul_le_mul (by omega) (by omega) (by omega) (by omega)
            omega
          have e2 : (x + 1) * (x + 1) = (x + 2) * x + 1 := by grind
          have e3 : q < x + 3 := by rw [← hq]; exact Int.ediv_lt_of_lt_mul (by omega) (by rw [e2] at e1; rw [Int.add_mul] at e1 ⊢; omega)
          omega
        have uq : U128 q := by unfold U128; omega
        have ux : U64 x := by unfold U64; omega
        have uqx : U128 (q + x) := by unfold U128; omega
        have d1 : ∀ w, _ := fun w => HDv.out x q r (by omega) xu hq hr w
        have d2 : ∀ w, _ := fun w => add_ok q x (q + x) (Wd.mk uq) (Wd.lit ux) rfl uqx w
        have d3 : ∀ w, _ := fun w => shr_any (q + x) 1 (Wd.mk uqx) w (by omega) (by omega)
        rw [show (2 : Int) ^ (1 : Int).toNat = 2 from rfl, hy] at d3
        rw [hy] at f0
        have D1 := Lib.hid d1
        have D2 := Lib.hid d2
        have cs : (y < x ∧ hi y = 0 ∧ lo y = y) ∨ (x ≤ y ∧ hi y = 0 ∧ lo y = y) ∨ (x ≤ y ∧ 0 < hi y) := by unfold hi lo; omega
        clear d1 d2 hq hr hy uq ux uqx
        rcases cs with ⟨c, c1, c2⟩ | ⟨c, c1, c2⟩ | ⟨c, c1⟩
        · rw [c1, c2] at d3
          have D3 := Lib.hid d3
          clear d3 c1 c2 f1
          go_wp2_with fail
          refine (D1.out _).mono ?_
          rintro e w3 ⟨rfl, hb3⟩
          have z3 := hb3.size
          have c3 := Below.cells hb3
          have f3 := Below.frozens hb3
          try simp only [World.size_alloc, World.size_setCell, World.size_drew] at z3 c3 f3
          go_wp2_with fail
          refine (D2.out _).mono ?_
          rintro e w4 ⟨rfl, hb4⟩
          have z4 := hb4.size
          have c4 := Below.cells hb4
          have f4 := Below.frozens hb4
          try simp only [World.size_alloc, World.size_setCell, World.size_drew] at z4 c4 f4
          go_wp2_with fail
          refine (D3.out _).mono ?_
          rintro e w5 ⟨rfl, hb5⟩
          have z5 := hb5.size
          have c5 := Below.cells hb5
          have f5 := Below.frozens hb5
          try simp only [World.size_alloc, World.size_setCell, World.size_drew] at z5 c5 f5
          go_wp2_with fail
          go_roundw
          case rel => exact ⟨y, rfl, f0, by omega, by simp [go_sem, ↓IntWalk.iteOmega, *], by simp [go_sem, ↓IntWalk.iteOmega, *], by simp only [World.size_alloc, World.size_setCell]; omega, (by repeat (first | (with_reducible exact Below.refl _ _) | ((with_reducible refine Below.alloc ?_ ?_ _); rotate_left; (next => ((try dsimp only); (try simp only [World.size_alloc, World.size_setCell, World.size_drew]); omega))) | ((with_reducible refine Below.setCell ?_ ?_ _); rotate_left; (next => ((try dsimp only); (try simp only [World.size_alloc, World.size_setCell, World.size_drew]); omega))) | (with_reducible refine Below.drew ?_) | ((with_reducible refine Below.trans ?_ (Below.mono hb5 ?_)); rotate_left; (next => ((try dsimp only); (try simp only [World.size_alloc, World.size_setCell, World.size_drew]); omega))) | ((with_reducible refine Below.trans ?_ (Below.mono hb4 ?_)); rotate_left; (next => ((try dsimp only); (try simp only [World.size_alloc, World.size_setCell, World.size_drew]); omega))) | ((with_reducible refine Below.trans ?_ (Below.mono hb3 ?_)); rotate_left; (next => ((try dsimp only); (try simp only [World.size_alloc, World.size_setCell, World.size_drew]); omega))) | (with_reducible exact bel)))⟩
          case measure => simp [intOf]; omega
        · rw [c1, c2] at d3
          have D3 := Lib.hid d3
          clear d3 c1 c2
          obtain rfl := f1 c
          go_wp2_with fail
          refine (D1.out _).mono ?_
          rintro e w3 ⟨rfl, hb3⟩
          have z3 := hb3.size
          have c3 := Below.cells hb3
          have f3 := Below.frozens hb3
          try simp only [World.size_alloc, World.size_setCell, World.size_drew] at z3 c3 f3
          go_wp2_with fail
          refine (D2.out _).mono ?_
          rintro e w4 ⟨rfl, hb4⟩
          have z4 := hb4.size
          have c4 := Below.cells hb4
          have f4 := Below.frozens hb4
          try simp only [World.size_alloc, World.size_setCell, World.size_drew] at z4 c4 f4
          go_wp2_with fail
          refine (D3.out _).mono ?_
          rintro e w5 ⟨rfl, hb5⟩
          have z5 := hb5.size
          have c5 := Below.cells hb5
          have f5 := Below.frozens hb5
          try simp only [World.size_alloc, World.size_setCell, World.size_drew] at z5 c5 f5
          go_wp2_with fail
          go_ret
          exact ⟨rfl, (by repeat (first | (with_reducible exact Below.refl _ _) | ((with_reducible refine Below.alloc ?_ ?_ _); rotate_left; (next => ((try dsimp only); (try simp only [World.size_alloc, World.size_setCell, World.size_drew]); omega))) | ((with_reducible refine Below.setCell ?_ ?_ _); rotate_left; (next => ((try dsimp only); (try simp only [World.size_alloc, World.size_setCell, World.size_drew]); omega))) | (with_reducible refine Below.drew ?_) | ((with_reducible refine Below.trans ?_ (Below.mono hb5 ?_)); rotate_left; (next => ((try dsimp only); (try simp only [World.size_alloc, World.size_setCell, World.size_drew]); omega))) | ((with_reducible refine Below.trans ?_ (Below.mono hb4 ?_)); rotate_left; (next => ((try dsimp only); (try simp only [World.size_alloc, World.size_setCell, World.size_drew]); omega))) | ((with_reducible refine Below.trans ?_ (Below.mono hb3 ?_)); rotate_left; (next => ((try dsimp only); (try simp only [World.size_alloc, World.size_setCell, World.size_drew]); omega))) | (with_reducible exact bel)))⟩
        · have D3 := Lib.hid d3
          clear d3
          obtain rfl := f1 c
          go_wp2_with fail
          refine (D1.out _).mono ?_
          rintro e w3 ⟨rfl, hb3⟩
          have z3 := hb3.size
          have c3 := Below.cells hb3
          have f3 := Below.frozens hb3
          try simp only [World.size_alloc, World.size_setCell, World.size_drew] at z3 c3 f3
          go_wp2_with fail
          refine (D2.out _).mono ?_
          rintro e w4 ⟨rfl, hb4⟩
          have z4 := hb4.size
          have c4 := Below.cells hb4
          have f4 := Below.frozens hb4
          try simp only [World.size_alloc, World.size_setCell, World.size_drew] at z4 c4 f4
          go_wp2_with fail
          refine (D3.out _).mono ?_
          rintro e w5 ⟨rfl, hb5⟩
          have z5 := hb5.size
          have c5 := Below.cells hb5
          have f5 := Below.frozens hb5
          try simp only [World.size_alloc, World.size_setCell, World.size_drew] at z5 c5 f5
          go_wp2_with fail
          go_ret
          exact ⟨rfl, (by repeat (first | (with_reducible exact Below.refl _ _) | ((with_reducible refine Below.alloc ?_ ?_ _); rotate_left; (next => ((try dsimp only); (try simp only [World.size_alloc, World.size_setCell, World.size_drew]); omega))) | ((with_reducible refine Below.setCell ?_ ?_ _); rotate_left; (next => ((try dsimp only); (try simp only [World.size_alloc, World.size_setCell, World.size_drew]); omega))) | (with_reducible refine Below.drew ?_) | ((with_reducible refine Below.trans ?_ (Below.mono hb5 ?_)); rotate_left; (next => ((try dsimp only); (try simp only [World.size_alloc, World.size_setCell, World.size_drew]); omega))) | ((with_reducible refine Below.trans ?_ (Below.mono hb4 ?_)); rotate_left; (next => ((try dsimp only); (try simp only [World.size_alloc, World.size_setCell, World.size_drew]); omega))) | ((with_reducible refine Below.trans ?_ (Below.mono hb3 ?_)); rotate_left; (next => ((try dsimp only); (try simp only [World.size_alloc, World.size_setCell, World.size_drew]); omega))) | (with_reducible exact bel)))⟩
    · have hld : decide (B < 127) = true := by simpa using hl
      go_enter Try.func26, Try.ntmps26
      go_wp2_with fail
      refine (HLen.out _).mono ?_
      rintro e w1 ⟨rfl, hb1⟩
      rw [HBB.out]
      have z1 := hb1.size
      have c1 := Below.cells hb1
      have f1 := Below.frozens hb1
      try simp only [World.size_alloc, World.size_setCell, World.size_drew] at z1 c1 f1
      go_wp2_with fail
      refine (HLen.out _).mono ?_
      rintro e w2 ⟨rfl, hb2⟩
      rw [HBB.out]
      have z2 := hb2.size
      have c2 := Below.cells hb2
      have f2 := Below.frozens hb2
      try simp only [World.size_alloc, World.size_setCell, World.size_drew] at z2 c2 f2
      go_wp2_with fail
      go_loopw [3] (fun v wr => ∃ x : Int, v = .int .u64 x ∧ s ≤ x ∧ x ≤ 18446744073709551615 ∧ wr.cell? ⟨w.heap.size, 0, none⟩ = some (.int .u64 0) ∧ wr.cell? ⟨w.heap.size, 1, none⟩ = some (.int .u64 al) ∧ w.heap.size + 1 ≤ wr.heap.size ∧ Below w.heap.size w wr) (fun v _ => (intOf v).toNat)
      case atStart => exact ⟨_, rfl, x1, x2, by simp [go_sem, ↓IntWalk.iteOmega, *], by simp [go_sem, ↓IntWalk.iteOmega, *], by omega, (by repeat (first | (with_reducible exact Below.refl _ _) | ((with_reducible refine Below.alloc ?_ ?_ _); rotate_left; (next => ((try dsimp only); (try simp only [World.size_alloc, World.size_setCell, World.size_drew]); omega))) | ((with_reducible refine Below.setCell ?_ ?_ _); rotate_left; (next => ((try dsimp only); (try simp only [World.size_alloc, World.size_setCell, World.size_drew]); omega))) | (with_reducible refine Below.drew ?_) | ((with_reducible refine Below.trans ?_ (Below.mono hb2 ?_)); rotate_left; (next => ((try dsimp only); (try simp only [World.size_alloc, World.size_setCell, World.size_drew]); omega))) | ((with_reducible refine Below.trans ?_ (Below.mono hb1 ?_)); rotate_left; (next => ((try dsimp only); (try simp only [World.size_alloc, World.size_setCell, World.size_drew]); omega)))))⟩
      case round =>
        obtain ⟨x, rfl, xs, xu, k0, k1, sz, bel⟩ := hrel
        clear c1 f1 z1 hb1 c2 f2 z2 hb2
        obtain ⟨q, hq⟩ : ∃ q, a / x = q := ⟨_, rfl⟩
        obtain ⟨r, hr⟩ : ∃ r, a % x = r := ⟨_, rfl⟩
        obtain ⟨y, hy⟩ : ∃ y, (q + x) / 2 = y := ⟨_, rfl⟩
        have f0 := newton_ge HS.out (by omega) hq
        have f1 : x ≤ y → x = s := fun h => newton_end HS.out (by omega) xs hq (by omega)
        have q0 : 0 ≤ q := by rw [← hq]; exact Int.ediv_nonneg HUa.out.1 (by omega)
        have q1 : q < 340282366920938463463374607431768211455 - 18446744073709551615 := by
          have e1 : a < (x + 1) * (x + 1) := by
            have := HS.out.2.2
            have : (s + 1) * (s + 1) ≤ (x + 1) * (x + 1) := Int.mul_le_mul (by omega) (by omega) (by omega) (by omega)
            omega
          have e2 : (x + 1) * (x + 1) = (x + 2) * x + 1 := by grind
          have e3 : q < x + 3 := by rw [← hq]; exact Int.ediv_lt_of_lt_mul (by omega) (by rw [e2] at e1; rw [Int.add_mul] at e1 ⊢; omega)
          omega
        have uq : U128 q := by unfold U128; omega
        have ux : U64 x := by unfold U64; omega
        have uqx : U128 (q + x) := by unfold U128; omega
        have d1 : ∀ w, _ := fun w => HDv.out x q r (by omega) xu hq hr w
        have d2 : ∀ w, _ := fun w => add_ok q x (q + x) (Wd.mk uq) (Wd.lit ux) rfl uqx w
        have d3 : ∀ w, _ := fun w => shr_any (q + x) 1 (Wd.mk uqx) w (by omega) (by omega)
        rw [show (2 : Int) ^ (1 : Int).toNat = 2 from rfl, hy] at d3
        rw [hy] at f0
        have D1 := Lib.hid d1
        have D2 := Lib.hid d2
        have cs : (y < x ∧ hi y = 0 ∧ lo y = y) ∨ (x ≤ y ∧ hi y = 0 ∧ lo y = y) ∨ (x ≤ y ∧ 0 < hi y) := by unfold hi lo; omega
        clear d1 d2 hq hr hy uq ux uqx
        rcases cs with ⟨c, c1, c2⟩ | ⟨c, c1, c2⟩ | ⟨c, c1⟩
        · rw [c1, c2] at d3
          have D3 := Lib.hid d3
          clear d3 c1 c2 f1
          go_wp2_with fail
          refine (D1.out _).mono ?_
          rintro e w3 ⟨rfl, hb3⟩
          have z3 := hb3.size
          have c3 := Below.cells hb3
          have f3 := Below.frozens hb3
          try simp only [World.size_alloc, World.size_setCell, World.size_drew] at z3 c3 f3
          go_wp2_with fail
          refine (D2.out _).mono ?_
          rintro e w4 ⟨rfl, hb4⟩
          have z4 := hb4.size
          have c4 := Below.cells hb4
          have f4 := Below.frozens hb4
          try simp only [World.size_alloc, World.size_setCell, World.size_drew] at z4 c4 f4
          go_wp2_with fail
          refine (D3.out _).mono ?_
          rintro e w5 ⟨rfl, hb5⟩
          have z5 := hb5.size
          have c5 := Below.cells hb5
          have f5 := Below.frozens hb5
          try simp only [World.size_alloc, World.size_setCell, World.size_drew] at z5 c5 f5
          go_wp2_with fail
          go_roundw
          case rel => exact ⟨y, rfl, f0, by omega, by simp [go_sem, ↓IntWalk.iteOmega, *], by simp [go_sem, ↓IntWalk.iteOmega, *], by simp only [World.size_alloc, World.size_setCell]; omega, (by repeat (first | (with_reducible exact Below.refl _ _) | ((with_reducible refine Below.alloc ?_ ?_ _); rotate_left; (next => ((try dsimp only); (try simp only [World.size_alloc, World.size_setCell, World.size_drew]); omega))) | ((with_reducible refine Below.setCell ?_ ?_ _); rotate_left; (next => ((try dsimp only); (try simp only [World.size_alloc, World.size_setCell, World.size_drew]); omega))) | (with_reducible refine Below.drew ?_) | ((with_reducible refine Below.trans ?_ (Below.mono hb5 ?_)); rotate_left; (next => ((try dsimp only); (try simp only [World.size_alloc, World.size_setCell, World.size_drew]); omega))) | ((with_reducible refine Below.trans ?_ (Below.mono hb4 ?_)); rotate_left; (next => ((try dsimp only); (try simp only [World.size_alloc, World.size_setCell, World.size_drew]); omega))) | ((with_reducible refine Below.trans ?_ (Below.mono hb3 ?_)); rotate_left; (next => ((try dsimp only); (try simp only [World.size_alloc, World.size_setCell, World.size_drew]); omega))) | (with_reducible exact bel)))⟩
          case measure => simp [intOf]; omega
        · rw [c1, c2] at d3
          have D3 := Lib.hid d3
          clear d3 c1 c2
          obtain rfl := f1 c
          go_wp2_with fail
          refine (D1.out _).mono ?_
          rintro e w3 ⟨rfl, hb3⟩
          have z3 := hb3.size
          have c3 := Below.cells hb3
          have f3 := Below.frozens hb3
          try simp only [World.size_alloc, World.size_setCell, World.size_drew] at z3 c3 f3
          go_wp2_with fail
          refine (D2.out _).mono ?_
          rintro e w4 ⟨rfl, hb4⟩
          have z4 := hb4.size
          have c4 := Below.cells hb4
          have f4 := Below.frozens hb4
          try simp only [World.size_alloc, World.size_setCell, World.size_drew] at z4 c4 f4
          go_wp2_with fail
          refine (D3.out _).mono ?_
          rintro e w5 ⟨rfl, hb5⟩
          have z5 := hb5.size
          have c5 := Below.cells hb5
          have f5 := Below.frozens hb5
          try simp only [World.size_alloc, World.size_setCell, World.size_drew] at z5 c5 f5
          go_wp2_with fail
          go_ret
          exact ⟨rfl, (by repeat (first | (with_reducible exact Below.refl _ _) | ((with_reducible refine Below.alloc ?_ ?_ _); rotate_left; (next => ((try dsimp only); (try simp only [World.size_alloc, World.size_setCell, World.size_drew]); omega))) | ((with_reducible refine Below.setCell ?_ ?_ _); rotate_left; (next => ((try dsimp only); (try simp only [World.size_alloc, World.size_setCell, World.size_drew]); omega))) | (with_reducible refine Below.drew ?_) | ((with_reducible refine Below.trans ?_ (Below.mono hb5 ?_)); rotate_left; (next => ((try dsimp only); (try simp only [World.size_alloc, World.size_setCell, World.size_drew]); omega))) | ((with_reducible refine Below.trans ?_ (Below.mono hb4 ?_)); rotate_left; (next => ((try dsimp only); (try simp only [World.size_alloc, World.size_setCell, World.size_drew]); omega))) | ((with_reducible refine Below.trans ?_ (Below.mono hb3 ?_)); rotate_left; (next => ((try dsimp only); (try simp only [World.size_alloc, World.size_setCell, World.size_drew]); omega))) | (with_reducible exact bel)))⟩
        · have D3 := Lib.hid d3
          clear d3
          obtain rfl := f1 c
          go_wp2_with fail
          refine (D1.out _).mono ?_
          rintro e w3 ⟨rfl, hb3⟩
          have z3 := hb3.size
          have c3 := Below.cells hb3
          have f3 := Below.frozens hb3
          try simp only [World.size_alloc, World.size_setCell, World.size_drew] at z3 c3 f3
          go_wp2_with fail
          refine (D2.out _).mono ?_
          rintro e w4 ⟨rfl, hb4⟩
          have z4 := hb4.size
          have c4 := Below.cells hb4
          have f4 := Below.frozens hb4
          try simp only [World.size_alloc, World.size_setCell, World.size_drew] at z4 c4 f4
          go_wp2_with fail
          refine (D3.out _).mono ?_
          rintro e w5 ⟨rfl, hb5⟩
          have z5 := hb5.size
          have c5 := Below.cells hb5
          have f5 := Below.frozens hb5
          try simp only [World.size_alloc, World.size_setCell, World.size_drew] at z5 c5 f5
          go_wp2_with fail
          go_ret
          exact ⟨rfl, (by repeat (first | (with_reducible exact Below.refl _ _) | ((with_reducible refine Below.alloc ?_ ?_ _); rotate_left; (next => ((try dsimp only); (try simp only [World.size_alloc, World.size_setCell, World.size_drew]); omega))) | ((with_reducible refine Below.setCell ?_ ?_ _); rotate_left; (next => ((try dsimp only); (try simp only [World.size_alloc, World.size_setCell, World.size_drew]); omega))) | (with_reducible refine Below.drew ?_) | ((with_reducible refine Below.trans ?_ (Below.mono hb5 ?_)); rotate_left; (next => ((try dsimp only); (try simp only [World.size_alloc, World.size_setCell, World.size_drew]); omega))) | ((with_reducible refine Below.trans ?_ (Below.mono hb4 ?_)); rotate_left; (next => ((try dsimp only); (try simp only [World.size_alloc, World.size_setCell, World.size_drew]); omega))) | ((with_reducible refine Below.trans ?_ (Below.mono hb3 ?_)); rotate_left; (next => ((try dsimp only); (try simp only [World.size_alloc, World.size_setCell, World.size_drew]); omega))) | (with_reducible exact bel)))⟩

/-- The root, rounded down. -/
theorem root_ok (a s : Int) {ah al : Int} (ha : Wd a ah al) (hs : IsRoot a s) (w : World) :
    Calls Try.prog 26 #[.agg #[.int .u64 ah, .int .u64 al]] w fun e w' => e = .returned (.int .u64 s) ∧ Below w.heap.size w w' := by
  by_cases h : a < 2
  · have h0 := ha.1.1
    obtain rfl := isRoot_uniq hs (isRoot_small h0 h)
    obtain ⟨_, rfl, rfl⟩ := ha
    rw [show hi s = 0 by unfold hi; omega, show lo s = s by unfold lo; omega]
    exact root_small s h h0 w
  · exact root_big a s ha (by omega) hs w
end Go.Proofs.Ytlnagfmaiabhaaa

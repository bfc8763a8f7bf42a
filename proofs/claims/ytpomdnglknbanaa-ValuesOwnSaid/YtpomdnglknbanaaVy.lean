/-
  level.Of and chen.Expect, whatever the list; rankBegun.
-/
import Derived.Test.YtpomdnglknbanaaVx
set_option linter.unusedSimpArgs false
set_option linter.unusedVariables false
namespace Go.Proofs.Ytpomdnglknbanaa
open Go Go.RowKit
set_option maxRecDepth 100000 in
set_option maxHeartbeats 4000000 in
theorem look_no (z : Int) (A : Option Addr) (n c : Nat) (l : List Int) (w : World) (hr : Row w A n l) (hm : n ≤ 9223372036854775807) (hb : ¬ (((1 ≤ z ∧ z ≤ 64) ∧ (n : Int) ≤ z ∧ Btw 0 16777216 l) ∧ 0 < n)) :
    Calls Try.prog 100 #[.agg #[.int .i64 z, .slice A n c], .int .i64 5] w fun e w' => (∃ k : Int, (k != 0) = true ∧ e = .returned (.int .i64 k)) ∧ Below w.heap.size w w' := by
  have HR := Lib.hid hr
  have qa := alloc_cells
  have qf := alloc_frozens
  by_cases h1 : (1 ≤ z ∧ z ≤ 64) ∧ (n : Int) ≤ z ∧ Btw 0 16777216 l
  · obtain rfl : n = 0 := by
      rcases Nat.eq_zero_or_pos n with h | h
      · exact h
      · exact absurd ⟨h1, h⟩ hb
    have HC := Lib.hid (fun w' (h : Row w' A 0 l) => wcheck_ok z A 0 c l w' h h1.1 h1.2.1 h1.2.2)
    clear hr hb h1
    go_enter Try.func100, Try.ntmps100
    go_wp2_with fail
    refine (HC.out _ (HR.out.below (by repeat (first | (with_reducible exact Below.refl _ _) | ((with_reducible refine Below.alloc ?_ ?_ _); rotate_left; (next => ((try dsimp only); (try simp only [World.size_alloc, World.size_setCell, World.size_drew]); omega))) | ((with_reducible refine Below.setCell ?_ ?_ _); rotate_left; (next => ((try dsimp only); (try simp only [World.size_alloc, World.size_setCell, World.size_drew]); omega))) | (with_reducible refine Below.drew ?_) | (refine Below.trans ?_ (by assumption)))))).mono ?_
    rintro e w1 ⟨rfl, hb1⟩
    have z1 := hb1.size
    have c1 := Below.cells hb1
    have f1 := Below.frozens hb1
    try simp only [World.size_alloc, World.size_setCell, World.size_drew] at z1 c1 f1
    go_wp2_with fail
    go_ret
    exact ⟨⟨4, by decide, rfl⟩, (by repeat (first | (with_reducible exact Below.refl _ _) | ((with_reducible refine Below.alloc ?_ ?_ _); rotate_left; (next => ((try dsimp only); (try simp only [World.size_alloc, World.size_setCell, World.size_drew]); omega))) | ((with_reducible refine Below.setCell ?_ ?_ _); rotate_left; (next => ((try dsimp only); (try simp only [World.size_alloc, World.size_setCell, World.size_drew]); omega))) | (with_reducible refine Below.drew ?_) | ((with_reducible refine Below.trans ?_ (Below.mono hb1 ?_)); rotate_left; (next => ((try dsimp only); (try simp only [World.size_alloc, World.size_setCell, World.size_drew]); omega)))))⟩
  · have HC := Lib.hid (fun w' (h : Row w' A n l) => wcheck_no z A n c l w' h hm h1)
    clear hr hb h1
    go_enter Try.func100, Try.ntmps100
    go_wp2_with fail
    refine (HC.out _ (HR.out.below (by repeat (first | (with_reducible exact Below.refl _ _) | ((with_reducible refine Below.alloc ?_ ?_ _); rotate_left; (next => ((try dsimp only); (try simp only [World.size_alloc, World.size_setCell, World.size_drew]); omega))) | ((with_reducible refine Below.setCell ?_ ?_ _); rotate_left; (next => ((try dsimp only); (try simp only [World.size_alloc, World.size_setCell, World.size_drew]); omega))) | (with_reducible refine Below.drew ?_) | (refine Below.trans ?_ (by assumption)))))).mono ?_
    rintro e w1 ⟨⟨k, hk, rfl⟩, hb1⟩
    have hk0 : (k == 0) = false := by simpa using hk
    have hk1 : ¬ k = 0 := by simpa using hk
    have HK := Lib.hid hk
    have z1 := hb1.size
    try simp only [World.size_alloc, World.size_setCell, World.size_drew] at z1
    clear hk
    go_wp2_with fail
    go_ret
    exact ⟨⟨k, HK.out, rfl⟩, (by repeat (first | (with_reducible exact Below.refl _ _) | ((with_reducible refine Below.alloc ?_ ?_ _); rotate_left; (next => ((try dsimp only); (try simp only [World.size_alloc, World.size_setCell, World.size_drew]); omega))) | ((with_reducible refine Below.setCell ?_ ?_ _); rotate_left; (next => ((try dsimp only); (try simp only [World.size_alloc, World.size_setCell, World.size_drew]); omega))) | (with_reducible refine Below.drew ?_) | ((with_reducible refine Below.trans ?_ (Below.mono hb1 ?_)); rotate_left; (next => ((try dsimp only); (try simp only [World.size_alloc, World.size_setCell, World.size_drew]); omega)))))⟩
set_option maxRecDepth 100000 in
set_option maxHeartbeats 4000000 in
theorem lof_any (z v : Int) (A : Option Addr) (n c : Nat) (l : List Int) (w : World) (hr : Row w A n l) (hm : n ≤ 9223372036854775807) :
    Calls Try.prog 35 #[.agg #[.int .i64 z, .slice A n c], .int .i64 5, .int .i64 v] w fun e w' => (∃ v, e = .returned v) ∧ Below w.heap.size w w' := by
  have HR := Lib.hid hr
  have qa := alloc_cells
  have qf := alloc_frozens
  by_cases h1 : ((1 ≤ z ∧ z ≤ 64) ∧ (n : Int) ≤ z ∧ Btw 0 16777216 l) ∧ 0 < n
  · by_cases hv : 0 ≤ v ∧ v ≤ 1073741824
    · exact (level_lv z 5 v A n c l w hr h1.1.1 h1.1.2.1 (by rw [hr.1]; omega) h1.1.2.2 (by omega) hv).mono fun e w' ⟨e1, e2⟩ => ⟨⟨_, e1⟩, e2⟩
    · have HL := Lib.hid (fun w' (h : Row w' A n l) => look_ok z 5 A n c l w' h h1.1.1 h1.1.2.1 h1.2 h1.1.2.2 (by omega))
      by_cases v0 : v < 0
      · clear hr h1 hv
        go_enter Try.func35, Try.ntmps35
        go_wp2_with fail
        refine (HL.out _ (HR.out.below (by repeat (first | (with_reducible exact Below.refl _ _) | ((with_reducible refine Below.alloc ?_ ?_ _); rotate_left; (next => ((try dsimp only); (try simp only [World.size_alloc, World.size_setCell, World.size_drew]); omega))) | ((with_reducible refine Below.setCell ?_ ?_ _); rotate_left; (next => ((try dsimp only); (try simp only [World.size_alloc, World.size_setCell, World.size_drew]); omega))) | (with_reducible refine Below.drew ?_) | (refine Below.trans ?_ (by assumption)))))).mono ?_
        rintro e w1 ⟨rfl, hb1⟩
        have z1 := hb1.size
        have c1 := Below.cells hb1
        have f1 := Below.frozens hb1
        try simp only [World.size_alloc, World.size_setCell, World.size_drew] at z1 c1 f1
        go_wp2_with fail
        go_ret2
        exact ⟨⟨_, rfl⟩, (by repeat (first | (with_reducible exact Below.refl _ _) | ((with_reducible refine Below.alloc ?_ ?_ _); rotate_left; (next => ((try dsimp only); (try simp only [World.size_alloc, World.size_setCell, World.size_drew]); omega))) | ((with_reducible refine Below.setCell ?_ ?_ _); rotate_left; (next => ((try dsimp only); (try simp only [World.size_alloc, World.size_setCell, World.size_drew]); omega))) | (with_reducible refine Below.drew ?_) | ((with_reducible refine Below.trans ?_ (Below.mono hb1 ?_)); rotate_left; (next => ((try dsimp only); (try simp only [World.size_alloc, World.size_setCell, World.size_drew]); omega)))))⟩
      · have v1 : 1073741824 < v := by omega
        clear hr h1 hv
        go_enter Try.func35, Try.ntmps35
        go_wp2_with fail
        refine (HL.out _ (HR.out.below (by repeat (first | (with_reducible exact Below.refl _ _) | ((with_reducible refine Below.alloc ?_ ?_ _); rotate_left; (next => ((try dsimp only); (try simp only [World.size_alloc, World.size_setCell, World.size_drew]); omega))) | ((with_reducible refine Below.setCell ?_ ?_ _); rotate_left; (next => ((try dsimp only); (try simp only [World.size_alloc, World.size_setCell, World.size_drew]); omega))) | (with_reducible refine Below.drew ?_) | (refine Below.trans ?_ (by assumption)))))).mono ?_
        rintro e w1 ⟨rfl, hb1⟩
        have z1 := hb1.size
        have c1 := Below.cells hb1
        have f1 := Below.frozens hb1
        try simp only [World.size_alloc, World.size_setCell, World.size_drew] at z1 c1 f1
        go_wp2_with fail
        go_ret2
        exact ⟨⟨_, rfl⟩, (by repeat (first | (with_reducible exact Below.refl _ _) | ((with_reducible refine Below.alloc ?_ ?_ _); rotate_left; (next => ((try dsimp only); (try simp only [World.size_alloc, World.size_setCell, World.size_drew]); omega))) | ((with_reducible refine Below.setCell ?_ ?_ _); rotate_left; (next => ((try dsimp only); (try simp only [World.size_alloc, World.size_setCell, World.size_drew]); omega))) | (with_reducible refine Below.drew ?_) | ((with_reducible refine Below.trans ?_ (Below.mono hb1 ?_)); rotate_left; (next => ((try dsimp only); (try simp only [World.size_alloc, World.size_setCell, World.size_drew]); omega)))))⟩
  · have HC := Lib.hid (fun w' (h : Row w' A n l) => look_no z A n c l w' h hm h1)
    clear hr h1
    go_enter Try.func35, Try.ntmps35
    go_wp2_with fail
    refine (HC.out _ (HR.out.below (by repeat (first | (with_reducible exact Below.refl _ _) | ((with_reducible refine Below.alloc ?_ ?_ _); rotate_left; (next => ((try dsimp only); (try simp only [World.size_alloc, World.size_setCell, World.size_drew]); omega))) | ((with_reducible refine Below.setCell ?_ ?_ _); rotate_left; (next => ((try dsimp only); (try simp only [World.size_alloc, World.size_setCell, World.size_drew]); omega))) | (with_reducible refine Below.drew ?_) | (refine Below.trans ?_ (by assumption)))))).mono ?_
    rintro e w1 ⟨⟨k, hk, rfl⟩, hb1⟩
    have hk0 : (k == 0) = false := by simpa using hk
    have hk1 : ¬ k = 0 := by simpa using hk
    have z1 := hb1.size
    try simp only [World.size_alloc, World.size_setCell, World.size_drew] at z1
    clear hk
    go_wp2_with fail
    go_ret2
    exact ⟨⟨_, rfl⟩, (by repeat (first | (with_reducible exact Below.refl _ _) | ((with_reducible refine Below.alloc ?_ ?_ _); rotate_left; (next => ((try dsimp only); (try simp only [World.size_alloc, World.size_setCell, World.size_drew]); omega))) | ((with_reducible refine Below.setCell ?_ ?_ _); rotate_left; (next => ((try dsimp only); (try simp only [World.size_alloc, World.size_setCell, World.size_drew]); omega))) | (with_reducible refine Below.drew ?_) | ((with_reducible refine Below.trans ?_ (Below.mono hb1 ?_)); rotate_left; (next => ((try dsimp only); (try simp only [World.size_alloc, World.size_setCell, World.size_drew]); omega)))))⟩
set_option maxRecDepth 100000 in
set_option maxHeartbeats 4000000 in
theorem expect_any (A : Option Addr) (n c : Nat) (l : List Int) (w : World) (hr : Row w A n l) (hm : n ≤ 9223372036854775807) :
    Calls Try.prog 85 #[.slice A n c, .slice A n c, .int .i64 5] w fun e w' => (∃ v, e = .returned v) ∧ Below w.heap.size w w' := by
  by_cases h64 : 64 < n
  · have h64' : (64 : Int) < n := by omega
    clear hr
    go_enter Try.func85, Try.ntmps85
    go_wp2_with fail
    go_ret2
    exact ⟨⟨_, rfl⟩, Below.refl _ _⟩
  have h64' : ¬ (64 : Int) < n := by omega
  by_cases h0 : n = 0
  · subst h0
    clear hr
    go_enter Try.func85, Try.ntmps85
    go_wp2_with fail
    go_loop [8, 9, 35] (fun s p i => s = .int .i64 0 ∧ p = .int .i64 0 ∧ i = .int .i64 0) (fun _ _ i => 0)
    case atStart => exact ⟨rfl, rfl, rfl⟩
    case round =>
      obtain ⟨rfl, rfl, rfl⟩ := hrel
      go_wp2_with fail
      go_ret2
      exact ⟨⟨_, rfl⟩, Below.refl _ _⟩
  by_cases hg : Rises l
  · have hb : Btw 0 1073741824 l := by
      intro y hy
      obtain ⟨k, hk, rfl⟩ := List.getElem_of_mem hy
      have g : l[k] = l.getD k 0 := by simp [List.getD, hk]
      rw [g]
      have p := hg k hk
      have q := hg.prev_bd k (by omega)
      omega
    exact (expect_ok A A n c c l l 5 _ w hr hr (by omega) (by omega) (by omega) hg hb rfl).mono fun e w' ⟨e1, e2⟩ => ⟨⟨_, e1⟩, by rw [← e2]; exact Below.refl _ _⟩
  obtain ⟨b, off, rfl, _, hc⟩ := hr.at (show 0 < n by omega)
  have HC := Lib.hid hc
  have HG := Lib.hid hg
  have HL := Lib.hid hr.1
  clear hr hc hg
  go_enter Try.func85, Try.ntmps85
  go_wp2_with fail
  go_loop [8, 9, 35] (fun s p i => ∃ (k : Nat) (S P : Int), k ≤ n ∧ i = .int .i64 k ∧ s = .int .i64 S ∧ p = .int .i64 P ∧ prev l k = P ∧ 0 ≤ P ∧ (∀ j, j < k → prev l j < l.getD j 0 ∧ l.getD j 0 ≤ 1000000)) (fun _ _ i => n - (intOf i).toNat)
  case atStart => exact ⟨0, 0, 0, Nat.zero_le _, rfl, rfl, rfl, rfl, Int.le_refl _, fun j hj => absurd hj (by omega)⟩
  case round =>
    obtain ⟨k, S, P, hk, rfl, rfl, rfl, hP, hP0, hpre⟩ := hrel
    have HP := Lib.hid hP
    have HPre := Lib.hid hpre
    clear hP hpre
    by_cases hlt : k < n
    · obtain ⟨y, hy, hcy⟩ := name_num (HC.out k hlt)
      have HY := Lib.hid hy
      have kl : (k : Int) < n := by omega
      have kw : IntKind.i64.wrap ((k : Int) + 1) = (k : Int) + 1 := IntWalk.i64_in _ (by omega)
      clear hy
      by_cases h1 : y ≤ P
      · go_wp2_with fail
        go_ret2
        exact ⟨⟨_, rfl⟩, Below.refl _ _⟩
      by_cases h2 : 1000000 < y
      · have h1' : decide (y ≤ P) = false := by simp; omega
        go_wp2_with fail
        go_ret2
        exact ⟨⟨_, rfl⟩, Below.refl _ _⟩
      · have h1' : decide (y ≤ P) = false := by simp; omega
        have h3 : ¬ y < 0 := by omega
        have h4 : ¬ 1073741824 < y := by omega
        go_wp2_with fail
        go_round
        case rel =>
          refine ⟨k + 1, _, y, by omega, by go_num, rfl, rfl, by rw [prev_succ, HY.out], by omega, fun j hj => ?_⟩
          by_cases e : j = k
          · subst e
            rw [HP.out, ← HY.out]
            omega
          · exact HPre.out j (by omega)
        case measure => simp [intOf]; omega
    · obtain rfl : n = k := by omega
      exact absurd (fun j hj => HPre.out j (by rw [← HL.out]; exact hj)) HG.out
theorem srt_312 : srt [3, 1, 2] = [1, 2, 3] := srt_eq (by decide) (by decide)
set_option maxRecDepth 100000 in
set_option maxHeartbeats 4000000 in
theorem rbegun_ok (w : World) :
    Calls Try.prog 76 #[] w fun e w' => e = .returned (.bool true) ∧ Below w.heap.size w w' := by
  have hs0 := sort_ok _ 3 3 [3, 1, 2] _ (Row.lit w 3 [3, 1, 2] 3 rfl) (by omega) (by decide)
  simp only [List.map_cons, List.map_nil] at hs0
  rw [srt_312] at hs0
  have HS0 := Lib.hid hs0
  have qa := alloc_cells
  have qf := alloc_frozens
  clear hs0
  go_enter Try.func76, Try.ntmps76
  go_wp2_with fail
  refine HS0.out.mono ?_
  rintro e w1 ⟨A', c', rfl, hin, _, hb1⟩
  have z1 := hb1.size
  (try simp only [World.size_alloc] at z1)
  have hE := equal_ok _ _ 3 c' 3 3 [1, 2, 3] _ (hin.1.below ((Below.refl w1.heap.size w1).alloc (Nat.le_refl _) (.cells #[.int .i64 1, .int .i64 2, .int .i64 3] 3))) (Row.lit w1 3 [1, 2, 3] 3 rfl) (by omega)
  try simp only [List.map_cons, List.map_nil] at hE
  have HE := Lib.hid hE
  clear hE hin
  go_wp2_with fail
  refine (HE.out).mono ?_
  rintro e w2 ⟨rfl, hb2⟩
  have z2 := hb2.size
  have c2 := Below.cells hb2
  have f2 := Below.frozens hb2
  try simp only [World.size_alloc, World.size_setCell, World.size_drew] at z2 c2 f2
  go_wp2_with fail
  go_ret
  exact ⟨rfl, (by repeat (first | (with_reducible exact Below.refl _ _) | ((with_reducible refine Below.alloc ?_ ?_ _); rotate_left; (next => ((try dsimp only); (try simp only [World.size_alloc, World.size_setCell, World.size_drew]); omega))) | ((with_reducible refine Below.setCell ?_ ?_ _); rotate_left; (next => ((try dsimp only); (try simp only [World.size_alloc, World.size_setCell, World.size_drew]); omega))) | (with_reducible refine Below.drew ?_) | ((with_reducible refine Below.trans ?_ (Below.mono hb2 ?_)); rotate_left; (next => ((try dsimp only); (try simp only [World.size_alloc, World.size_setCell, World.size_drew]); omega))) | ((with_reducible refine Below.trans ?_ (Below.mono hb1 ?_)); rotate_left; (next => ((try dsimp only); (try simp only [World.size_alloc, World.size_setCell, World.size_drew]); omega)))))⟩
end Go.Proofs.Ytpomdnglknbanaa

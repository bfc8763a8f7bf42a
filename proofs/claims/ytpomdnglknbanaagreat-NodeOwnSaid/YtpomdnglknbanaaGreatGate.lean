/-
  The walks of package gate.
-/
import Derived.Test.YtpomdnglknbanaaGreatCm
import Derived.Test.YtpomdnglknbanaaGreatQA
import Derived.Lib.Hide
set_option linter.unusedSimpArgs false
set_option linter.unusedVariables false
namespace Go.Proofs.YtpomdnglknbanaaGreat
open Go.RowKit

theorem makes_gate {o : Oper} (h : o.op = .alloc 86) (hg : o.guard = none) : Makes Tryz.prog o #[.int .i64 0, .int .i64 0, .int .i64 0] 86 :=
  ⟨hg, fun ev w => by unfold execOp; rw [h]; simp [go_sem]⟩

/-- A gate that may be. -/
def GateOK (i s d : Int) : Prop := 0 ≤ i ∧ i < 2147483648 ∧ 0 ≤ s ∧ s < 2147483648 ∧ 0 ≤ d ∧ d ≤ 1073741824 ∧ ¬ (s = 0 ∧ ¬ i = 0)

set_option maxHeartbeats 1000000 in
theorem gcheck_ok (i s d : Int) (h : GateOK i s d) (w : World) :
    Calls Tryz.prog 76 #[.agg #[.int .i64 i, .int .i64 s, .int .i64 d]] w fun e w' => e = .returned (.int .i64 0) ∧ Below w.heap.size w w' := by
  obtain ⟨h1, h2, h3, h4, h5, h6, h7⟩ := h
  by_cases c : s = 0
  · have c' : i = 0 := by omega
    clear h7
    subst c c'
    go_enter Tryz.func76, Tryz.ntmps76
    go_wp2
    go_ret
    exact ⟨rfl, (by repeat (first | (with_reducible exact Below.refl _ _) | ((with_reducible refine Below.alloc ?_ ?_ _); rotate_left; (next => ((try dsimp only); (try simp only [World.size_alloc, World.size_setCell, World.size_drew]); omega))) | ((with_reducible refine Below.setCell ?_ ?_ _); rotate_left; (next => ((try dsimp only); (try simp only [World.size_alloc, World.size_setCell, World.size_drew]); omega))) | (with_reducible refine Below.drew ?_) | (refine Below.trans ?_ (by assumption))))⟩
  · clear h7
    go_enter Tryz.func76, Tryz.ntmps76
    go_wp2
    go_ret
    exact ⟨rfl, (by repeat (first | (with_reducible exact Below.refl _ _) | ((with_reducible refine Below.alloc ?_ ?_ _); rotate_left; (next => ((try dsimp only); (try simp only [World.size_alloc, World.size_setCell, World.size_drew]); omega))) | ((with_reducible refine Below.setCell ?_ ?_ _); rotate_left; (next => ((try dsimp only); (try simp only [World.size_alloc, World.size_setCell, World.size_drew]); omega))) | (with_reducible refine Below.drew ?_) | (refine Below.trans ?_ (by assumption))))⟩

set_option maxHeartbeats 4000000 in
theorem gcheck_bad (i s d : Int) (h : ¬ GateOK i s d) (w : World) :
    Calls Tryz.prog 76 #[.agg #[.int .i64 i, .int .i64 s, .int .i64 d]] w fun e w' => e = .returned (.int .i64 1) ∧ Below w.heap.size w w' := by
  have cs : i < 0 ∨ (0 ≤ i ∧ 2147483648 ≤ i) ∨ (0 ≤ i ∧ i < 2147483648 ∧ s < 0) ∨ (0 ≤ i ∧ i < 2147483648 ∧ 0 ≤ s ∧ 2147483648 ≤ s) ∨ (0 ≤ i ∧ i < 2147483648 ∧ 0 ≤ s ∧ s < 2147483648 ∧ d < 0) ∨
      (0 ≤ i ∧ i < 2147483648 ∧ 0 ≤ s ∧ s < 2147483648 ∧ 0 ≤ d ∧ 1073741824 < d) ∨ (0 ≤ i ∧ i < 2147483648 ∧ 0 ≤ d ∧ d ≤ 1073741824 ∧ s = 0 ∧ ¬ i = 0) := by
    unfold GateOK at h; omega
  clear h
  rcases cs with h1 | ⟨h1, h2⟩ | ⟨h1, h2, h3⟩ | ⟨h1, h2, h3, h4⟩ | ⟨h1, h2, h3, h4, h5⟩ | ⟨h1, h2, h3, h4, h5, h6⟩ | ⟨h1, h2, h3, h4, rfl, h6⟩
  rotate_left 6
  · have h7 : (i != 0) = true := by simpa using h6
    go_enter Tryz.func76, Tryz.ntmps76
    go_wp2
    go_ret
    exact ⟨rfl, (by repeat (first | (with_reducible exact Below.refl _ _) | ((with_reducible refine Below.alloc ?_ ?_ _); rotate_left; (next => ((try dsimp only); (try simp only [World.size_alloc, World.size_setCell, World.size_drew]); omega))) | ((with_reducible refine Below.setCell ?_ ?_ _); rotate_left; (next => ((try dsimp only); (try simp only [World.size_alloc, World.size_setCell, World.size_drew]); omega))) | (with_reducible refine Below.drew ?_) | (refine Below.trans ?_ (by assumption))))⟩
  all_goals
    go_enter Tryz.func76, Tryz.ntmps76
    go_wp2
    go_ret
    exact ⟨rfl, (by repeat (first | (with_reducible exact Below.refl _ _) | ((with_reducible refine Below.alloc ?_ ?_ _); rotate_left; (next => ((try dsimp only); (try simp only [World.size_alloc, World.size_setCell, World.size_drew]); omega))) | ((with_reducible refine Below.setCell ?_ ?_ _); rotate_left; (next => ((try dsimp only); (try simp only [World.size_alloc, World.size_setCell, World.size_drew]); omega))) | (with_reducible refine Below.drew ?_) | (refine Below.trans ?_ (by assumption))))⟩

set_option maxHeartbeats 1000000 in
theorem take_new (i s d j t : Int) (h : GateOK i s d) (j0 : 0 ≤ j) (j1 : j < 2147483648) (t0 : 1 ≤ t) (t1 : t < 2147483648) (hn : i < j ∨ j = i ∧ s < t) (w : World) :
    Calls Tryz.prog 68 #[.agg #[.int .i64 i, .int .i64 s, .int .i64 d], .int .i64 j, .int .i64 t] w fun e w' => e = .returned (.tuple #[.agg #[.int .i64 j, .int .i64 t, .int .i64 d], .bool true, .int .i64 0]) ∧ Below w.heap.size w w' := by
  have qa := alloc_cells
  have qf := alloc_frozens
  rcases hn with hn | ⟨rfl, hn⟩
  · go_enter Tryz.func68, Tryz.ntmps68
    go_wp2_with fail
    refine (gcheck_ok i s d h _).mono ?_
    rintro e w1 ⟨rfl, hb1⟩
    have z1 := hb1.size
    have c1 := Below.cells hb1
    have f1 := Below.frozens hb1
    try simp only [World.size_alloc, World.size_setCell, World.size_drew] at z1 c1 f1
    go_wp2_with fail
    refine bodyPost_ret (v := .tuple #[.agg #[.int .i64 j, .int .i64 t, .int .i64 d], .bool true, .int .i64 0]) (by simp [results, Tryz.results68, go_sem, ↓IntWalk.iteOmega, *]) rfl ?_
    exact ⟨rfl, (by repeat (first | (with_reducible exact Below.refl _ _) | ((with_reducible refine Below.alloc ?_ ?_ _); rotate_left; (next => ((try dsimp only); (try simp only [World.size_alloc, World.size_setCell, World.size_drew]); omega))) | ((with_reducible refine Below.setCell ?_ ?_ _); rotate_left; (next => ((try dsimp only); (try simp only [World.size_alloc, World.size_setCell, World.size_drew]); omega))) | (with_reducible refine Below.drew ?_) | ((with_reducible refine Below.trans ?_ (Below.mono hb1 ?_)); rotate_left; (next => ((try dsimp only); (try simp only [World.size_alloc, World.size_setCell, World.size_drew]); omega)))))⟩
  · have hn' : ¬ j < j := by omega
    go_enter Tryz.func68, Tryz.ntmps68
    go_wp2_with fail
    refine (gcheck_ok j s d h _).mono ?_
    rintro e w1 ⟨rfl, hb1⟩
    have z1 := hb1.size
    have c1 := Below.cells hb1
    have f1 := Below.frozens hb1
    try simp only [World.size_alloc, World.size_setCell, World.size_drew] at z1 c1 f1
    go_wp2_with fail
    refine bodyPost_ret (v := .tuple #[.agg #[.int .i64 j, .int .i64 t, .int .i64 d], .bool true, .int .i64 0]) (by simp [results, Tryz.results68, go_sem, ↓IntWalk.iteOmega, *]) rfl ?_
    exact ⟨rfl, (by repeat (first | (with_reducible exact Below.refl _ _) | ((with_reducible refine Below.alloc ?_ ?_ _); rotate_left; (next => ((try dsimp only); (try simp only [World.size_alloc, World.size_setCell, World.size_drew]); omega))) | ((with_reducible refine Below.setCell ?_ ?_ _); rotate_left; (next => ((try dsimp only); (try simp only [World.size_alloc, World.size_setCell, World.size_drew]); omega))) | (with_reducible refine Below.drew ?_) | ((with_reducible refine Below.trans ?_ (Below.mono hb1 ?_)); rotate_left; (next => ((try dsimp only); (try simp only [World.size_alloc, World.size_setCell, World.size_drew]); omega)))))⟩

set_option maxHeartbeats 1000000 in
theorem take_old (i s d j t d' : Int) (h : GateOK i s d) (j0 : 0 ≤ j) (j1 : j < 2147483648) (t0 : 1 ≤ t) (t1 : t < 2147483648) (hn : j < i ∨ j = i ∧ t ≤ s) (hd : d' = if d = 1073741824 then d else d + 1) (w : World) :
    Calls Tryz.prog 68 #[.agg #[.int .i64 i, .int .i64 s, .int .i64 d], .int .i64 j, .int .i64 t] w fun e w' => e = .returned (.tuple #[.agg #[.int .i64 i, .int .i64 s, .int .i64 d'], .bool false, .int .i64 0]) ∧ Below w.heap.size w w' := by
  have qa := alloc_cells
  have qf := alloc_frozens
  have hD := h.2.2.2.2
  by_cases c : d = 1073741824
  · rw [if_pos c] at hd
    subst hd
    subst c
    rcases hn with hn | ⟨rfl, hn⟩
    · have hn' : ¬ j = i := by omega
      have hn'' : ¬ i < j := by omega
      go_enter Tryz.func68, Tryz.ntmps68
      go_wp2_with fail
      refine (gcheck_ok i s 1073741824 h _).mono ?_
      rintro e w1 ⟨rfl, hb1⟩
      have z1 := hb1.size
      have c1 := Below.cells hb1
      have f1 := Below.frozens hb1
      try simp only [World.size_alloc, World.size_setCell, World.size_drew] at z1 c1 f1
      go_wp2_with fail
      refine bodyPost_ret (v := .tuple #[.agg #[.int .i64 i, .int .i64 s, .int .i64 1073741824], .bool false, .int .i64 0]) (by simp [results, Tryz.results68, go_sem, ↓IntWalk.iteOmega, *]) rfl ?_
      exact ⟨rfl, (by repeat (first | (with_reducible exact Below.refl _ _) | ((with_reducible refine Below.alloc ?_ ?_ _); rotate_left; (next => ((try dsimp only); (try simp only [World.size_alloc, World.size_setCell, World.size_drew]); omega))) | ((with_reducible refine Below.setCell ?_ ?_ _); rotate_left; (next => ((try dsimp only); (try simp only [World.size_alloc, World.size_setCell, World.size_drew]); omega))) | (with_reducible refine Below.drew ?_) | ((with_reducible refine Below.trans ?_ (Below.mono hb1 ?_)); rotate_left; (next => ((try dsimp only); (try simp only [World.size_alloc, World.size_setCell, World.size_drew]); omega)))))⟩
    · have hn' : ¬ j < j := by omega
      go_enter Tryz.func68, Tryz.ntmps68
      go_wp2_with fail
      refine (gcheck_ok j s 1073741824 h _).mono ?_
      rintro e w1 ⟨rfl, hb1⟩
      have z1 := hb1.size
      have c1 := Below.cells hb1
      have f1 := Below.frozens hb1
      try simp only [World.size_alloc, World.size_setCell, World.size_drew] at z1 c1 f1
      go_wp2_with fail
      refine bodyPost_ret (v := .tuple #[.agg #[.int .i64 j, .int .i64 s, .int .i64 1073741824], .bool false, .int .i64 0]) (by simp [results, Tryz.results68, go_sem, ↓IntWalk.iteOmega, *]) rfl ?_
      exact ⟨rfl, (by repeat (first | (with_reducible exact Below.refl _ _) | ((with_reducible refine Below.alloc ?_ ?_ _); rotate_left; (next => ((try dsimp only); (try simp only [World.size_alloc, World.size_setCell, World.size_drew]); omega))) | ((with_reducible refine Below.setCell ?_ ?_ _); rotate_left; (next => ((try dsimp only); (try simp only [World.size_alloc, World.size_setCell, World.size_drew]); omega))) | (with_reducible refine Below.drew ?_) | ((with_reducible refine Below.trans ?_ (Below.mono hb1 ?_)); rotate_left; (next => ((try dsimp only); (try simp only [World.size_alloc, World.size_setCell, World.size_drew]); omega)))))⟩
  · rw [if_neg c] at hd
    subst hd
    have hm : ¬ 1073741824 < d + 1 := by omega
    rcases hn with hn | ⟨rfl, hn⟩
    · have hn' : ¬ j = i := by omega
      have hn'' : ¬ i < j := by omega
      go_enter Tryz.func68, Tryz.ntmps68
      go_wp2_with fail
      refine (gcheck_ok i s d h _).mono ?_
      rintro e w1 ⟨rfl, hb1⟩
      have z1 := hb1.size
      have c1 := Below.cells hb1
      have f1 := Below.frozens hb1
      try simp only [World.size_alloc, World.size_setCell, World.size_drew] at z1 c1 f1
      go_wp2_with fail
      refine bodyPost_ret (v := .tuple #[.agg #[.int .i64 i, .int .i64 s, .int .i64 (d + 1)], .bool false, .int .i64 0]) (by simp [results, Tryz.results68, go_sem, ↓IntWalk.iteOmega, *]) rfl ?_
      exact ⟨rfl, (by repeat (first | (with_reducible exact Below.refl _ _) | ((with_reducible refine Below.alloc ?_ ?_ _); rotate_left; (next => ((try dsimp only); (try simp only [World.size_alloc, World.size_setCell, World.size_drew]); omega))) | ((with_reducible refine Below.setCell ?_ ?_ _); rotate_left; (next => ((try dsimp only); (try simp only [World.size_alloc, World.size_setCell, World.size_drew]); omega))) | (with_reducible refine Below.drew ?_) | ((with_reducible refine Below.trans ?_ (Below.mono hb1 ?_)); rotate_left; (next => ((try dsimp only); (try simp only [World.size_alloc, World.size_setCell, World.size_drew]); omega)))))⟩
    · have hn' : ¬ j < j := by omega
      go_enter Tryz.func68, Tryz.ntmps68
      go_wp2_with fail
      refine (gcheck_ok j s d h _).mono ?_
      rintro e w1 ⟨rfl, hb1⟩
      have z1 := hb1.size
      have c1 := Below.cells hb1
      have f1 := Below.frozens hb1
      try simp only [World.size_alloc, World.size_setCell, World.size_drew] at z1 c1 f1
      go_wp2_with fail
      refine bodyPost_ret (v := .tuple #[.agg #[.int .i64 j, .int .i64 s, .int .i64 (d + 1)], .bool false, .int .i64 0]) (by simp [results, Tryz.results68, go_sem, ↓IntWalk.iteOmega, *]) rfl ?_
      exact ⟨rfl, (by repeat (first | (with_reducible exact Below.refl _ _) | ((with_reducible refine Below.alloc ?_ ?_ _); rotate_left; (next => ((try dsimp only); (try simp only [World.size_alloc, World.size_setCell, World.size_drew]); omega))) | ((with_reducible refine Below.setCell ?_ ?_ _); rotate_left; (next => ((try dsimp only); (try simp only [World.size_alloc, World.size_setCell, World.size_drew]); omega))) | (with_reducible refine Below.drew ?_) | ((with_reducible refine Below.trans ?_ (Below.mono hb1 ?_)); rotate_left; (next => ((try dsimp only); (try simp only [World.size_alloc, World.size_setCell, World.size_drew]); omega)))))⟩
end Go.Proofs.YtpomdnglknbanaaGreat

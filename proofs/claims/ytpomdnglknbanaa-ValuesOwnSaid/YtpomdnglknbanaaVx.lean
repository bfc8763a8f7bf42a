/-
  What package rank, win, stat, vote, level and chen answer, whatever the list: that they return, and that what is answered is new.
-/
import Derived.Test.YtpomdnglknbanaaPc
import Derived.Test.YtpomdnglknbanaaPu2
import Derived.Test.YtpomdnglknbanaaFar
import Derived.Test.YtpomdnglknbanaaMv
import Derived.Test.YtpomdnglknbanaaCh
import Derived.Test.YtpomdnglknbanaaEq
import Derived.Test.YtpomdnglknbanaaRc
set_option linter.unusedSimpArgs false
set_option linter.unusedVariables false
namespace Go.Proofs.Ytpomdnglknbanaa
open Go Go.RowKit
/-- A list that is none. -/
def Bad (n : Nat) (l : List Int) : Prop := ¬ (n ≤ 64 ∧ Btw 0 16777216 l)
theorem list_no (A : Option Addr) (n c : Nat) (l : List Int) (w : World) (h : Row w A n l) (hm : n ≤ 9223372036854775807) (hb : Bad n l) :
    ∃ k : Int, (k = 1 ∨ k = 2) ∧ Calls Try.prog 126 #[.slice A n c] w fun e w' => e = .returned (.int .i64 k) ∧ w = w' := by
  by_cases h1 : n ≤ 64
  · exact ⟨1, .inl rfl, list_bad A n c l w h h1 (fun h2 => hb ⟨h1, h2⟩)⟩
  · exact ⟨2, .inr rfl, list_large A n c w (by omega) hm⟩
/-- A slice is answered that is new, and an error or none. -/
def NewRow (w : World) (e : Ending) (w' : World) : Prop := ∃ (A' : Option Addr) (n' c' : Nat) (l' : List Int) (k : Int), e = .returned (.tuple #[.slice A' n' c', .int .i64 k]) ∧ Fresh w' w.heap.size A' n' c' l' ∧ n' ≤ 65 ∧ Below w.heap.size w w'
theorem NewRow.nil {w w' : World} (k : Int) (hb : Below w.heap.size w w') : NewRow w (.returned (.tuple #[.slice none 0 0, .int .i64 k])) w' := ⟨none, 0, 0, [], k, rfl, Fresh.nil _ _, by omega, hb⟩

set_option maxRecDepth 100000 in
set_option maxHeartbeats 4000000 in
theorem sort_no (A : Option Addr) (n c : Nat) (l : List Int) (w : World) (hr : Row w A n l) (hm : n ≤ 9223372036854775807) (hb : Bad n l) :
    Calls Try.prog 78 #[.slice A n c] w fun e w' => NewRow w e w' := by
  obtain ⟨k, hk, hl⟩ := list_no A n c l w hr hm hb
  have HL := Lib.hid hl
  have qa := alloc_cells
  have qf := alloc_frozens
  clear hl hr hb
  rcases hk with rfl | rfl
  all_goals
    go_enter Try.func78, Try.ntmps78
    go_wp2_with fail
    refine (HL.out).mono ?_
    rintro e w' ⟨rfl, rfl⟩
    go_wp2_with fail
    try go_wp2_with fail
    go_ret2
    exact NewRow.nil _ (Below.refl _ _)

set_option maxRecDepth 100000 in
set_option maxHeartbeats 4000000 in
theorem put_no (A : Option Addr) (n c : Nat) (l : List Int) (x : Int) (w : World) (hr : Row w A n l) (hm : n ≤ 9223372036854775807) (hb : Bad n l) :
    Calls Try.prog 79 #[.slice A n c, .int .i64 x] w fun e w' => NewRow w e w' := by
  obtain ⟨k, hk, hl⟩ := list_no A n c l w hr hm hb
  have HL := Lib.hid hl
  have qa := alloc_cells
  have qf := alloc_frozens
  clear hl hr hb
  rcases hk with rfl | rfl
  all_goals
    go_enter Try.func79, Try.ntmps79
    go_wp2_with fail
    refine (HL.out).mono ?_
    rintro e w' ⟨rfl, rfl⟩
    go_wp2_with fail
    try go_wp2_with fail
    go_ret2
    exact NewRow.nil _ (Below.refl _ _)

set_option maxRecDepth 100000 in
set_option maxHeartbeats 4000000 in
theorem cut_no (A : Option Addr) (n c : Nat) (l : List Int) (x : Int) (w : World) (hr : Row w A n l) (hm : n ≤ 9223372036854775807) (hb : Bad n l) :
    Calls Try.prog 80 #[.slice A n c, .int .i64 x] w fun e w' => NewRow w e w' := by
  obtain ⟨k, hk, hl⟩ := list_no A n c l w hr hm hb
  have HL := Lib.hid hl
  have qa := alloc_cells
  have qf := alloc_frozens
  clear hl hr hb
  rcases hk with rfl | rfl
  all_goals
    go_enter Try.func80, Try.ntmps80
    go_wp2_with fail
    refine (HL.out).mono ?_
    rintro e w' ⟨rfl, rfl⟩
    go_wp2_with fail
    try go_wp2_with fail
    go_ret2
    exact NewRow.nil _ (Below.refl _ _)

set_option maxRecDepth 100000 in
set_option maxHeartbeats 4000000 in
theorem rank_no (A : Option Addr) (n c : Nat) (l : List Int) (p q : Int) (w : World) (hr : Row w A n l) (hm : n ≤ 9223372036854775807) (hb : Bad n l) :
    Calls Try.prog 81 #[.slice A n c, .int .i64 p, .int .i64 q] w fun e w' => (∃ v, e = .returned v) ∧ Below w.heap.size w w' := by
  obtain ⟨k, hk, hl⟩ := list_no A n c l w hr hm hb
  have HL := Lib.hid hl
  have qa := alloc_cells
  have qf := alloc_frozens
  clear hl hr hb
  rcases hk with rfl | rfl
  all_goals
    go_enter Try.func81, Try.ntmps81
    go_wp2_with fail
    refine (HL.out).mono ?_
    rintro e w' ⟨rfl, rfl⟩
    go_wp2_with fail
    try go_wp2_with fail
    go_ret2
    exact ⟨⟨_, rfl⟩, Below.refl _ _⟩

set_option maxRecDepth 100000 in
set_option maxHeartbeats 4000000 in
theorem far_no (A : Option Addr) (n c : Nat) (l : List Int) (x : Int) (w : World) (hr : Row w A n l) (hm : n ≤ 9223372036854775807) (hb : Bad n l) :
    Calls Try.prog 82 #[.slice A n c, .int .i64 x] w fun e w' => (∃ v, e = .returned v) ∧ Below w.heap.size w w' := by
  obtain ⟨k, hk, hl⟩ := list_no A n c l w hr hm hb
  have HL := Lib.hid hl
  have qa := alloc_cells
  have qf := alloc_frozens
  clear hl hr hb
  rcases hk with rfl | rfl
  all_goals
    go_enter Try.func82, Try.ntmps82
    go_wp2_with fail
    refine (HL.out).mono ?_
    rintro e w' ⟨rfl, rfl⟩
    go_wp2_with fail
    try go_wp2_with fail
    go_ret2
    exact ⟨⟨_, rfl⟩, Below.refl _ _⟩

theorem sort_any (A : Option Addr) (n c : Nat) (l : List Int) (w : World) (hr : Row w A n l) (hm : n ≤ 9223372036854775807) : Calls Try.prog 78 #[.slice A n c] w (NewRow w) := by
  by_cases hb : Bad n l
  · exact sort_no A n c l w hr hm hb
  · obtain ⟨h1, h2⟩ := Classical.not_not.1 hb
    exact (sort_ok A n c l w hr h1 h2).mono fun e w' ⟨A', c', e1, _, e3, e4⟩ => ⟨A', n, c', srt l, 0, e1, fresh_own e3, by omega, e4⟩
theorem pair_adj {l : List Int} (h : ∀ j, j + 1 < l.length → l.getD j 0 ≤ l.getD (j + 1) 0) : l.Pairwise (· ≤ ·) := by
  have key : ∀ d i, i + d < l.length → l.getD i 0 ≤ l.getD (i + d) 0 := by
    intro d
    induction d with
    | zero => intro i _; exact Int.le_refl _
    | succ d ih => intro i hi; exact Int.le_trans (ih i (by omega)) (h (i + d) (by omega))
  rw [List.pairwise_iff_getElem]
  intro i j hi hj hij
  have := key (j - i) i (by omega)
  rw [show i + (j - i) = j by omega] at this
  simpa [List.getD, hi, hj] using this
set_option maxRecDepth 100000 in
set_option maxHeartbeats 4000000 in
/-- Not in order: told. -/
theorem isSorted_any (A : Option Addr) (n c : Nat) (l : List Int) (w : World) (hr : Row w A n l) (hm : n ≤ 1000000) :
    Calls Try.prog 129 #[.slice A n c] w fun e w' => (e = .returned (.bool false) ∧ Below w.heap.size w w') ∨ (e = .returned (.bool true) ∧ l.Pairwise (· ≤ ·) ∧ Below w.heap.size w w') := by
  have hl := hr.1
  have HE := Lib.hid hr.each
  have hw1 : IntKind.i64.wrap ((n : Int) - 1) = (n : Int) - 1 := IntWalk.i64_in _ (by omega)
  have HL := Lib.hid hl
  clear hr hl
  go_enter Try.func129, Try.ntmps129
  go_wp2_with fail
  go_loopw [3] (fun i wr => ∃ j : Int, -1 ≤ j ∧ j < n ∧ i = .int .i64 j ∧ (∀ k : Nat, j ≤ k → k + 1 < n → l.getD k 0 ≤ l.getD (k + 1) 0) ∧ Below w.heap.size w wr) (fun i _ => (intOf i).toNat)
  case atStart => exact ⟨(n : Int) - 1, by omega, by omega, rfl, fun k h1 h2 => by omega, Below.refl _ _⟩
  case round =>
    obtain ⟨j, hj1, hj2, rfl, hadj, bel⟩ := hrel
    have hsz := bel.size
    have HA := Lib.hid hadj
    clear hadj
    by_cases hlt : 0 < j
    · obtain ⟨K, rfl⟩ : ∃ K : Nat, j = (K : Int) + 1 := ⟨(j - 1).toNat, by omega⟩
      obtain ⟨b, off, rfl, lt, p1⟩ := HE.out K (by omega)
      obtain ⟨b', off', e, _, p2⟩ := HE.out (K + 1) (by omega)
      injection e with e
      injection e with e1 e2
      subst e1 e2
      replace p1 := (bel.cell (p := ⟨b, off + K, none⟩) lt).trans p1
      replace p2 := (bel.cell (p := ⟨b, off + (K + 1), none⟩) lt).trans p2
      obtain ⟨x, hx⟩ : ∃ x, l.getD K 0 = x := ⟨_, rfl⟩
      obtain ⟨y, hy⟩ : ∃ x, l.getD (K + 1) 0 = x := ⟨_, rfl⟩
      rw [hx] at p1
      rw [hy] at p2
      have HXY := Lib.hid (And.intro hx hy)
      have k1 : IntKind.i64.wrap ((K : Int) + 1 - 1) = K := by rw [show (K : Int) + 1 - 1 = K by omega]; exact IntWalk.i64_in _ (by omega)
      have k2 : (0 : Int) ≤ (K : Int) + 1 := by omega
      have k3 : (K : Int) + 1 < n := by omega
      have k4 : ((K : Int) + 1).toNat = K + 1 := by omega
      have k6 : (K : Int) < n := by omega
      have k9 : IntKind.i64.wrap (K : Int) = K := IntWalk.i64_in _ (by omega)
      have k7 : (0 : Int) ≤ K := by omega
      have k5 : (K : Int) + 1 - 1 = K := by omega
      by_cases hle : x ≤ y
      · have hL : ∀ w', Calls Try.prog 151 #[.int .i64 y, .int .i64 x] w' fun e w'' => e = .returned (.bool false) ∧ Below w'.heap.size w' w'' := fun w' => by
          have := same_below2 (Try.cmp_Less_int2 y x w')
          rwa [show decide (y < x) = false by simp; omega] at this
        have HLs := Lib.hid hL
        have HLe := Lib.hid hle
        clear hx hy hL hle
        go_wp2_with fail
        refine wp_region_quiet_all (Ext _) (by kernel_rfl) (by kernel_rfl) (Ext.drawn _) ?_
        repeat (first | go_big_quiet_skip | go_big_quiet_step (fail) | (refine BigFrame.wpQuiet_want rfl (fun K hK => ?_); apply Exists.intro; refine ⟨fun w2 h2 => ?_, ?_⟩; (next => (have g1 := Below.cells h2.below; have g2 := Below.frozens h2.below; (try simp only [World.size_alloc, World.size_setCell] at g1 g2); first | (go_simp; (go_at_call 151; exact h2.calls (HLs.out _))) | (simp [go_sem, ↓IntWalk.iteOmega, *]; done) | (simp [go_sem, ↓IntWalk.iteOmega, *]; rfl)))); (go_simp; refine hK _ ?_; clear hK K))
        refine wpQuiet_nil ?_
        intro w1 h1
        have hb1 := h1.below
        clear h1
        have z1 := hb1.size
        have c1 := Below.cells hb1
        have f1 := Below.frozens hb1
        try simp only [World.size_alloc, World.size_setCell, World.size_drew] at z1 c1 f1
        go_wp2_with fail
        go_roundw
        case rel =>
          refine ⟨(K : Int), by omega, by omega, by go_num, fun k h1 h2 => ?_, bel.trans (hb1.mono bel.size)⟩
          by_cases e : k = K
          · subst e
            rw [HXY.out.1, HXY.out.2]
            exact HLe.out
          · exact HA.out k (by omega) h2
        case measure => simp [intOf]
      · have hL : ∀ w', Calls Try.prog 151 #[.int .i64 y, .int .i64 x] w' fun e w'' => e = .returned (.bool true) ∧ Below w'.heap.size w' w'' := fun w' => by
          have := same_below2 (Try.cmp_Less_int2 y x w')
          rwa [show decide (y < x) = true by simp; omega] at this
        have HLs := Lib.hid hL
        clear hx hy hL hle
        go_wp2_with fail
        refine wp_region_quiet_all (Ext _) (by kernel_rfl) (by kernel_rfl) (Ext.drawn _) ?_
        repeat (first | go_big_quiet_skip | go_big_quiet_step (fail) | (refine BigFrame.wpQuiet_want rfl (fun K hK => ?_); apply Exists.intro; refine ⟨fun w2 h2 => ?_, ?_⟩; (next => (have g1 := Below.cells h2.below; have g2 := Below.frozens h2.below; (try simp only [World.size_alloc, World.size_setCell] at g1 g2); first | (go_simp; (go_at_call 151; exact h2.calls (HLs.out _))) | (simp [go_sem, ↓IntWalk.iteOmega, *]; done) | (simp [go_sem, ↓IntWalk.iteOmega, *]; rfl)))); (go_simp; refine hK _ ?_; clear hK K))
        refine wpQuiet_nil ?_
        intro w1 h1
        have hb1 := h1.below
        clear h1
        have z1 := hb1.size
        have c1 := Below.cells hb1
        have f1 := Below.frozens hb1
        try simp only [World.size_alloc, World.size_setCell, World.size_drew] at z1 c1 f1
        go_wp2_with fail
        go_ret
        exact .inl ⟨rfl, bel.trans (hb1.mono bel.size)⟩
    · go_wp2_with fail
      go_ret
      exact .inr ⟨rfl, pair_adj fun k hk => HA.out k (by omega) (by rw [← HL.out]; exact hk), bel⟩
set_option maxHeartbeats 400000 in
theorem vpred_no (n : Int) (h : n < 0 ∨ 127 < n) (w : World) :
    Calls Try.prog 155 #[.int .i64 n] w fun e w' => e = .returned (.bool true) ∧ w = w' := by
  by_cases h1 : n < 0
  · go_enter Try.func155, Try.ntmps155
    go_wp2_with fail
    go_ret
    exact ⟨rfl, rfl⟩
  · have h2 : 127 < n := by omega
    go_enter Try.func155, Try.ntmps155
    go_wp2_with fail
    go_ret
    exact ⟨rfl, rfl⟩
set_option maxHeartbeats 1000000 in
theorem vindex_some (A : Option Addr) (n c : Nat) (l : List Int) (w : World) (h : Row w A n l) (hm : n ≤ 9223372036854775807) (hb : ¬ Btw 0 127 l) :
    Calls Try.prog 160 #[.slice A n c, .func (.func 155) #[] #[]] w (AnIdx w) := by
  have HB := Lib.hid h.each
  have HL := Lib.hid h.len
  have HV := Lib.hid hb
  clear h hb
  go_enter Try.func160, Try.ntmps160
  go_wp2_with fail
  go_loop [8] (fun i => ∃ k : Nat, k ≤ n ∧ i = .int .i64 k ∧ Btw 0 127 (l.take k)) (fun i => n - (intOf i).toNat)
  case atStart => exact ⟨0, Nat.zero_le _, rfl, Btw.nil _ _⟩
  case round =>
    obtain ⟨k, hk, rfl, hpre⟩ := hrel
    by_cases hlt : k < n
    · obtain ⟨bkx, offx, hAx, ltx, hrx⟩ := HB.out k hlt
      subst hAx
      obtain ⟨x, hvx, hxx⟩ := name_num hrx
      have HX := Lib.hid hvx
      clear hvx hrx
      by_cases hv : 0 ≤ x ∧ x ≤ 127
      · have hpre' : Btw 0 127 (l.take (k + 1)) := by
          rw [take_snoc l (by have := HL.out; omega), ← HX.out]; exact hpre.append (Btw.one hv.1 hv.2)
        have HP := Lib.hid hpre'
        obtain ⟨v0, v1⟩ := hv
        clear hpre hpre'
        go_wp2_with fail
        refine (vpred_ok x v0 v1 _).mono ?_
        rintro e w' ⟨rfl, rfl⟩
        go_wp2_with fail
        go_round
        case rel => exact ⟨k + 1, by omega, by go_num, HP.out⟩
        case measure => simp [intOf]; omega
      · have hv' : x < 0 ∨ 127 < x := by omega
        have H := Lib.hid hv'
        clear hv hv' hpre
        go_wp2_with fail
        refine (vpred_no x H.out _).mono ?_
        rintro e w' ⟨rfl, rfl⟩
        go_wp2_with fail
        go_ret
        exact ⟨k, by omega, rfl, rfl⟩
    · obtain rfl : k = n := by omega
      rw [List.take_of_length_le (by have := HL.out; omega)] at hpre
      exact absurd hpre HV.out
set_option maxHeartbeats 400000 in
theorem vcont_some (A : Option Addr) (n c : Nat) (l : List Int) (w : World) (h : Row w A n l) (hm : n ≤ 9223372036854775807) (hb : ¬ Btw 0 127 l) :
    Calls Try.prog 146 #[.slice A n c, .func (.func 155) #[] #[]] w fun e w' => e = .returned (.bool true) ∧ w = w' := by
  have C := Lib.hid (vindex_some A n c l w h hm hb)
  clear h hb
  go_enter Try.func146, Try.ntmps146
  go_wp2_with fail
  refine C.out.mono ?_
  rintro e w' ⟨k, hk, rfl, rfl⟩
  go_wp2_with fail
  go_ret
  exact ⟨rfl, rfl⟩
theorem vlook_bad (A : Option Addr) (n c : Nat) (l : List Int) (w : World) (h : Row w A n l) (hm : n ≤ 64) (hb : ¬ Btw 0 127 l) :
    Calls Try.prog 133 #[.slice A n c] w fun e w' => e = .returned (.int .i64 1) ∧ w = w' := by
  have C := Lib.hid (vcont_some A n c l w h (by omega) hb)
  clear h hb
  go_enter Try.func133, Try.ntmps133
  go_wp2_with fail
  refine (C.out).mono ?_
  rintro e w' ⟨rfl, rfl⟩
  go_wp2_with fail
  go_ret
  exact ⟨rfl, rfl⟩
theorem vlook_large (A : Option Addr) (n c : Nat) (w : World) (hm : 64 < n) (hn : n ≤ 9223372036854775807) :
    Calls Try.prog 133 #[.slice A n c] w fun e w' => e = .returned (.int .i64 2) ∧ w = w' := by
  go_enter Try.func133, Try.ntmps133
  go_wp2_with fail
  go_ret
  exact ⟨rfl, rfl⟩
set_option maxHeartbeats 1000000 in
theorem wcheck_no (z : Int) (A : Option Addr) (n c : Nat) (l : List Int) (w : World) (hr : Row w A n l) (hm : n ≤ 9223372036854775807) (hb : ¬ ((1 ≤ z ∧ z ≤ 64) ∧ (n : Int) ≤ z ∧ Btw 0 16777216 l)) :
    Calls Try.prog 96 #[.agg #[.int .i64 z, .slice A n c]] w fun e w' => (∃ k : Int, (k != 0) = true ∧ e = .returned (.int .i64 k)) ∧ Below w.heap.size w w' := by
  have hl := hr.1
  have qa := alloc_cells
  have qf := alloc_frozens
  have HR := Lib.hid hr
  by_cases h1 : z < 1
  · clear hr hb
    go_enter Try.func96, Try.ntmps96
    go_wp2_with fail
    go_ret
    exact ⟨⟨1, by decide, rfl⟩, (by repeat (first | (with_reducible exact Below.refl _ _) | ((with_reducible refine Below.alloc ?_ ?_ _); rotate_left; (next => ((try dsimp only); (try simp only [World.size_alloc, World.size_setCell, World.size_drew]); omega))) | ((with_reducible refine Below.setCell ?_ ?_ _); rotate_left; (next => ((try dsimp only); (try simp only [World.size_alloc, World.size_setCell, World.size_drew]); omega))) | (with_reducible refine Below.drew ?_) | (refine Below.trans ?_ (by assumption))))⟩
  · by_cases h2 : 64 < z
    · clear hr hb
      go_enter Try.func96, Try.ntmps96
      go_wp2_with fail
      go_ret
      exact ⟨⟨1, by decide, rfl⟩, (by repeat (first | (with_reducible exact Below.refl _ _) | ((with_reducible refine Below.alloc ?_ ?_ _); rotate_left; (next => ((try dsimp only); (try simp only [World.size_alloc, World.size_setCell, World.size_drew]); omega))) | ((with_reducible refine Below.setCell ?_ ?_ _); rotate_left; (next => ((try dsimp only); (try simp only [World.size_alloc, World.size_setCell, World.size_drew]); omega))) | (with_reducible refine Below.drew ?_) | (refine Below.trans ?_ (by assumption))))⟩
    · by_cases h3 : z < (n : Int)
      · clear hr hb
        go_enter Try.func96, Try.ntmps96
        go_wp2_with fail
        go_ret
        exact ⟨⟨2, by decide, rfl⟩, (by repeat (first | (with_reducible exact Below.refl _ _) | ((with_reducible refine Below.alloc ?_ ?_ _); rotate_left; (next => ((try dsimp only); (try simp only [World.size_alloc, World.size_setCell, World.size_drew]); omega))) | ((with_reducible refine Below.setCell ?_ ?_ _); rotate_left; (next => ((try dsimp only); (try simp only [World.size_alloc, World.size_setCell, World.size_drew]); omega))) | (with_reducible refine Below.drew ?_) | (refine Below.trans ?_ (by assumption))))⟩
      · have hv : ¬ Btw 0 16777216 l := fun h => hb ⟨⟨by omega, by omega⟩, by omega, h⟩
        have HC := Lib.hid (fun w' (h : Row w' A n l) => list_bad A n c l w' h (by omega) hv)
        clear hr hb hv
        go_enter Try.func96, Try.ntmps96
        go_wp2_with fail
        refine (HC.out _ (HR.out.below (by repeat (first | (with_reducible exact Below.refl _ _) | ((with_reducible refine Below.alloc ?_ ?_ _); rotate_left; (next => ((try dsimp only); (try simp only [World.size_alloc, World.size_setCell, World.size_drew]); omega))) | ((with_reducible refine Below.setCell ?_ ?_ _); rotate_left; (next => ((try dsimp only); (try simp only [World.size_alloc, World.size_setCell, World.size_drew]); omega))) | (with_reducible refine Below.drew ?_) | (refine Below.trans ?_ (by assumption)))))).mono ?_
        rintro e w' ⟨rfl, rfl⟩
        go_wp2_with fail
        go_ret
        exact ⟨⟨1, by decide, rfl⟩, (by repeat (first | (with_reducible exact Below.refl _ _) | ((with_reducible refine Below.alloc ?_ ?_ _); rotate_left; (next => ((try dsimp only); (try simp only [World.size_alloc, World.size_setCell, World.size_drew]); omega))) | ((with_reducible refine Below.setCell ?_ ?_ _); rotate_left; (next => ((try dsimp only); (try simp only [World.size_alloc, World.size_setCell, World.size_drew]); omega))) | (with_reducible refine Below.drew ?_) | (refine Below.trans ?_ (by assumption))))⟩
end Go.Proofs.Ytpomdnglknbanaa
namespace Go.Proofs.Ytpomdnglknbanaa
open Go.RowKit

/-! One by one. -/
section
variable (A : Option Addr) (n c : Nat) (l : List Int) (w : World)
set_option maxRecDepth 100000 in
set_option maxHeartbeats 8000000 in
theorem put_any (x : Int) (hr : Row w A n l) (hm : n ≤ 9223372036854775807) : Calls Try.prog 79 #[.slice A n c, .int .i64 x] w (NewRow w) := by
  by_cases hb : Bad n l
  · exact put_no A n c l x w hr hm hb
  obtain ⟨h1, h2⟩ := Classical.not_not.1 hb
  by_cases hs : l.Pairwise (· ≤ ·) ∧ (0 ≤ x ∧ x ≤ 16777216) ∧ n < 64
  · exact (put_wr A n c l x _ w hr hs.2.2 h2 hs.1 hs.2.1 rfl).mono fun e w' ⟨A', c', e1, e2, e3⟩ => ⟨A', n + 1, c', _, 0, e1, e2, by omega, e3⟩
  have HL := Lib.hid (list_ok A n c l w hr h1 h2)
  have HS := Lib.hid (isSorted_any A n c l w hr (by omega))
  have HSp := Lib.hid hs
  have hmn : ((n : Int) == 64) = false ∨ n = 64 := by
    by_cases e : n = 64
    · exact .inr e
    · exact .inl (by simp; omega)
  clear hr hb h2 hs
  go_enter Try.func79, Try.ntmps79
  go_wp2_with fail
  refine (HL.out).mono ?_
  rintro e w' ⟨rfl, rfl⟩
  go_wp2_with fail
  refine HS.out.mono ?_
  rintro e w1 (⟨rfl, hb1⟩ | ⟨rfl, hp, hb1⟩)
  · go_wp2_with fail
    go_ret2
    exact NewRow.nil _ hb1
  · by_cases hx : 0 ≤ x ∧ x ≤ 16777216
    · have h64 : n = 64 := by
        rcases Nat.lt_or_ge n 64 with h | h
        · exact absurd ⟨hp, hx, h⟩ HSp.out
        · omega
      subst h64
      have HV := Lib.hid (val_ok x hx.1 hx.2)
      clear hp hx hmn
      go_wp2_with fail
      refine (HV.out _).mono ?_
      rintro e w' ⟨rfl, rfl⟩
      go_wp2_with fail
      try go_wp2_with fail
      go_ret2
      exact NewRow.nil _ hb1
    · have HV := Lib.hid (val_no x (by omega))
      clear hp hx hmn
      go_wp2_with fail
      refine (HV.out _).mono ?_
      rintro e w' ⟨rfl, rfl⟩
      go_wp2_with fail
      try go_wp2_with fail
      go_ret2
      exact NewRow.nil _ hb1
set_option maxRecDepth 100000 in
set_option maxHeartbeats 8000000 in
theorem cut_any (x : Int) (hr : Row w A n l) (hm : n ≤ 9223372036854775807) : Calls Try.prog 80 #[.slice A n c, .int .i64 x] w (NewRow w) := by
  by_cases hb : Bad n l
  · exact cut_no A n c l x w hr hm hb
  obtain ⟨h1, h2⟩ := Classical.not_not.1 hb
  by_cases hs : l.Pairwise (· ≤ ·) ∧ x ∈ l
  · have hI : l.countP (· < x) < n := by
      rw [← hr.1]
      rcases Nat.lt_or_eq_of_le (List.countP_le_length (p := fun z => decide (z < x)) (l := l)) with h | h
      · exact h
      · have := List.countP_eq_length.1 h x hs.2
        simp at this
    exact (cut_wr A n c l x _ w hr h1 h2 hs.1 hs.2 rfl hI).mono fun e w' ⟨A', c', e1, e2, e3⟩ => ⟨A', n - 1, c', _, 0, e1, e2, by omega, e3⟩
  have HL := Lib.hid (list_ok A n c l w hr h1 h2)
  have HS := Lib.hid (isSorted_any A n c l w hr (by omega))
  have HR := Lib.hid hr
  have HB := Lib.hid (fun w' (h : Row w' A n l) hp => bs_ok A n c l x w' h h1 hp)
  have HSp := Lib.hid hs
  clear hr hb h2 hs
  go_enter Try.func80, Try.ntmps80
  go_wp2_with fail
  refine (HL.out).mono ?_
  rintro e w' ⟨rfl, rfl⟩
  go_wp2_with fail
  refine HS.out.mono ?_
  rintro e w1 (⟨rfl, hb1⟩ | ⟨rfl, hp, hb1⟩)
  · go_wp2_with fail
    go_ret2
    exact NewRow.nil _ hb1
  · have hx : l.contains x = false := by
      cases hc : l.contains x with
      | false => rfl
      | true => exact absurd ⟨hp, by simpa using hc⟩ HSp.out
    have HB1 := Lib.hid (HB.out w1 (HR.out.below hb1) hp)
    rw [hx] at HB1
    have B1 := Lib.hid hb1
    clear hp hx hb1
    go_wp2_with fail
    refine HB1.out.mono ?_
    rintro e w2 ⟨rfl, hb2⟩
    have B2 := Lib.hid (B1.out.trans (hb2.mono B1.out.size))
    clear hb2
    go_wp2_with fail
    go_ret2
    exact NewRow.nil _ B2.out
theorem far_any (x : Int) (hr : Row w A n l) (hm : n ≤ 9223372036854775807) : Calls Try.prog 82 #[.slice A n c, .int .i64 x] w fun e w' => (∃ v, e = .returned v) ∧ Below w.heap.size w w' := by
  by_cases hb : Bad n l
  · exact far_no A n c l x w hr hm hb
  obtain ⟨h1, h2⟩ := Classical.not_not.1 hb
  by_cases hx : 0 ≤ x ∧ x ≤ 16777216
  · exact (far_ok A n c l x _ w hr h1 h2 hx rfl).mono fun e w' ⟨e1, e2⟩ => ⟨⟨_, e1⟩, by rw [← e2]; exact Below.refl _ _⟩
  · have HL := Lib.hid (list_ok A n c l w hr h1 h2)
    have HV := Lib.hid (val_no x (by omega))
    clear hr hb h2 hx
    go_enter Try.func82, Try.ntmps82
    go_wp2_with fail
    refine (HL.out).mono ?_
    rintro e w' ⟨rfl, rfl⟩
    go_wp2_with fail
    refine (HV.out _).mono ?_
    rintro e w' ⟨rfl, rfl⟩
    go_wp2_with fail
    try go_wp2_with fail
    go_ret2
    exact ⟨⟨_, rfl⟩, Below.refl _ _⟩
theorem rank_any (hr : Row w A n l) (hm : n ≤ 9223372036854775807) : Calls Try.prog 81 #[.slice A n c, .int .i64 1, .int .i64 2] w fun e w' => (∃ v, e = .returned v) ∧ Below w.heap.size w w' := by
  by_cases hb : Bad n l
  · exact rank_no A n c l 1 2 w hr hm hb
  obtain ⟨h1, h2⟩ := Classical.not_not.1 hb
  by_cases h0 : n = 0
  · subst h0
    have HL := Lib.hid (list_ok A 0 c l w hr h1 h2)
    clear hr hb h2
    go_enter Try.func81, Try.ntmps81
    go_wp2_with fail
    refine (HL.out).mono ?_
    rintro e w' ⟨rfl, rfl⟩
    go_wp2_with fail
    try go_wp2_with fail
    go_ret2
    exact ⟨⟨_, rfl⟩, Below.refl _ _⟩
  · obtain ⟨K, hK⟩ : ∃ K : Nat, max 1 (((n : Int) * 1 + 2 - 1) / 2) = (K : Int) + 1 := ⟨(max 1 (((n : Int) * 1 + 2 - 1) / 2) - 1).toNat, by omega⟩
    exact (rank_ok A n c l 1 2 _ K w hr (by omega) h1 h2 (by omega) (by omega) hK (by omega) rfl).mono fun e w' ⟨e1, e2⟩ => ⟨⟨_, e1⟩, e2⟩
set_option maxRecDepth 100000 in
set_option maxHeartbeats 4000000 in
theorem sof_any (hr : Row w A n l) (hm : n ≤ 9223372036854775807) : Calls Try.prog 83 #[.slice A n c] w fun e w' => (∃ v, e = .returned v) ∧ Below w.heap.size w w' := by
  by_cases hb : Bad n l
  · have HL : ∃ k : Int, (k = 1 ∨ k = 2) ∧ ∀ w', Row w' A n l → Calls Try.prog 126 #[.slice A n c] w' fun e w'' => e = .returned (.int .i64 k) ∧ w' = w'' := by
      by_cases h1 : n ≤ 64
      · exact ⟨1, .inl rfl, fun w' h => list_bad A n c l w' h h1 (fun h2 => hb ⟨h1, h2⟩)⟩
      · exact ⟨2, .inr rfl, fun w' h => list_large A n c w' (by omega) hm⟩
    obtain ⟨k, hk, hl⟩ := HL
    have HL := Lib.hid hl
    have HR := Lib.hid hr
    have qa := alloc_cells
    have qf := alloc_frozens
    clear hl hr hb
    rcases hk with rfl | rfl
    · go_enter Try.func83, Try.ntmps83
      go_wp2_with fail
      refine (HL.out _ (HR.out.below (by repeat (first | (with_reducible exact Below.refl _ _) | ((with_reducible refine Below.alloc ?_ ?_ _); rotate_left; (next => ((try dsimp only); (try simp only [World.size_alloc, World.size_setCell, World.size_drew]); omega))) | ((with_reducible refine Below.setCell ?_ ?_ _); rotate_left; (next => ((try dsimp only); (try simp only [World.size_alloc, World.size_setCell, World.size_drew]); omega))) | (with_reducible refine Below.drew ?_) | (refine Below.trans ?_ (by assumption)))))).mono ?_
      rintro e w' ⟨rfl, rfl⟩
      go_wp2_with fail
      refine bodyPost_ret (v := .tuple #[.agg #[.int .i64 0, .int .i64 0, .int .i64 0], .int .i64 1]) (by simp [results, Try.f83, go_sem, ↓IntWalk.iteOmega, *]) rfl ?_
      exact ⟨⟨_, rfl⟩, (by repeat (first | (with_reducible exact Below.refl _ _) | ((with_reducible refine Below.alloc ?_ ?_ _); rotate_left; (next => ((try dsimp only); (try simp only [World.size_alloc, World.size_setCell, World.size_drew]); omega))) | ((with_reducible refine Below.setCell ?_ ?_ _); rotate_left; (next => ((try dsimp only); (try simp only [World.size_alloc, World.size_setCell, World.size_drew]); omega))) | (with_reducible refine Below.drew ?_) | (refine Below.trans ?_ (by assumption))))⟩
    · go_enter Try.func83, Try.ntmps83
      go_wp2_with fail
      refine (HL.out _ (HR.out.below (by repeat (first | (with_reducible exact Below.refl _ _) | ((with_reducible refine Below.alloc ?_ ?_ _); rotate_left; (next => ((try dsimp only); (try simp only [World.size_alloc, World.size_setCell, World.size_drew]); omega))) | ((with_reducible refine Below.setCell ?_ ?_ _); rotate_left; (next => ((try dsimp only); (try simp only [World.size_alloc, World.size_setCell, World.size_drew]); omega))) | (with_reducible refine Below.drew ?_) | (refine Below.trans ?_ (by assumption)))))).mono ?_
      rintro e w' ⟨rfl, rfl⟩
      go_wp2_with fail
      refine bodyPost_ret (v := .tuple #[.agg #[.int .i64 0, .int .i64 0, .int .i64 0], .int .i64 2]) (by simp [results, Try.f83, go_sem, ↓IntWalk.iteOmega, *]) rfl ?_
      exact ⟨⟨_, rfl⟩, (by repeat (first | (with_reducible exact Below.refl _ _) | ((with_reducible refine Below.alloc ?_ ?_ _); rotate_left; (next => ((try dsimp only); (try simp only [World.size_alloc, World.size_setCell, World.size_drew]); omega))) | ((with_reducible refine Below.setCell ?_ ?_ _); rotate_left; (next => ((try dsimp only); (try simp only [World.size_alloc, World.size_setCell, World.size_drew]); omega))) | (with_reducible refine Below.drew ?_) | (refine Below.trans ?_ (by assumption))))⟩
  · obtain ⟨h1, h2⟩ := Classical.not_not.1 hb
    exact (sof_ok A n c l _ _ w hr h1 h2 rfl rfl).mono fun e w' ⟨e1, e2⟩ => ⟨⟨_, e1⟩, e2⟩
theorem vlevel_any (hr : Row w A n l) (hm : n ≤ 9223372036854775807) : Calls Try.prog 84 #[.slice A n c, .int .i64 1] w fun e w' => (∃ v, e = .returned v) ∧ Below w.heap.size w w' := by
  by_cases h1 : n ≤ 64
  · by_cases h2 : Btw 0 127 l
    · by_cases h0 : n = 0
      · exact (vlevel_none A n c l 1 w hr h1 h2 (by omega) (by omega) (by omega)).mono fun e w' ⟨e1, e2⟩ => ⟨⟨_, e1⟩, by rw [← e2]; exact Below.refl _ _⟩
      · exact (vlevel_ok A n c l 1 _ (n - 1) w hr h1 h2 (by omega) (by omega) (by omega) rfl).mono fun e w' ⟨e1, e2⟩ => ⟨⟨_, e1⟩, e2⟩
    · have HL := Lib.hid (vlook_bad A n c l w hr h1 h2)
      clear hr h2
      go_enter Try.func84, Try.ntmps84
      go_wp2_with fail
      refine (HL.out).mono ?_
      rintro e w' ⟨rfl, rfl⟩
      go_wp2_with fail
      try go_wp2_with fail
      go_ret2
      exact ⟨⟨_, rfl⟩, Below.refl _ _⟩
  · have HL := Lib.hid (vlook_large A n c w (by omega) hm)
    clear hr
    go_enter Try.func84, Try.ntmps84
    go_wp2_with fail
    refine (HL.out).mono ?_
    rintro e w' ⟨rfl, rfl⟩
    go_wp2_with fail
    try go_wp2_with fail
    go_ret2
    exact ⟨⟨_, rfl⟩, Below.refl _ _⟩
/-- A window is answered whose list is new. -/
def NewWin (w : World) (e : Ending) (w' : World) : Prop := ∃ (z : Int) (A' : Option Addr) (n' c' : Nat) (l' : List Int) (k : Int), e = .returned (.tuple #[.agg #[.int .i64 z, .slice A' n' c'], .int .i64 k]) ∧ Fresh w' w.heap.size A' n' c' l' ∧ n' ≤ 65 ∧ Below w.heap.size w w'
set_option maxRecDepth 100000 in
set_option maxHeartbeats 4000000 in
theorem push_any (z v : Int) (hr : InRow w A n c l) (hm : n ≤ 9223372036854775807) : Calls Try.prog 32 #[.agg #[.int .i64 z, .slice A n c], .int .i64 v] w (NewWin w) := by
  by_cases hb : (1 ≤ z ∧ z ≤ 64) ∧ (n : Int) ≤ z ∧ Btw 0 16777216 l
  · by_cases hv : 0 ≤ v ∧ v ≤ 16777216
    · refine (push_ok z v A n c l w hr hb.1 hb.2.1 hb.2.2 hv).mono fun e w' ⟨A', n', c', e1, e2, e3⟩ => ⟨z, A', n', c', _, 0, e1, fresh_own e2, ?_, e3⟩
      have h1 := e2.1
      have h2 := hr.1.1
      unfold pushd at h1
      simp only [List.length_map, List.length_append, List.length_singleton, Nat.mul_one] at h1
      split at h1
      · simp at h1; omega
      · omega
    · exact (push_bad z v A n c l w hr.1 hb.1 hb.2.1 hb.2.2 hv).mono fun e w' ⟨e1, e2⟩ => ⟨0, none, 0, 0, [], 1, e1, Fresh.nil _ _, by omega, e2⟩
  · have HC := Lib.hid (fun w' (h : Row w' A n l) => wcheck_no z A n c l w' h hm hb)
    have HR := Lib.hid hr.1
    have qa := alloc_cells
    have qf := alloc_frozens
    clear hr hb
    go_enter Try.func32, Try.ntmps32
    go_wp2_with fail
    refine (HC.out _ (HR.out.below (by repeat (first | (with_reducible exact Below.refl _ _) | ((with_reducible refine Below.alloc ?_ ?_ _); rotate_left; (next => ((try dsimp only); (try simp only [World.size_alloc, World.size_setCell, World.size_drew]); omega))) | ((with_reducible refine Below.setCell ?_ ?_ _); rotate_left; (next => ((try dsimp only); (try simp only [World.size_alloc, World.size_setCell, World.size_drew]); omega))) | (with_reducible refine Below.drew ?_) | (refine Below.trans ?_ (by assumption)))))).mono ?_
    rintro e w1 ⟨⟨k, hk, rfl⟩, hb1⟩
    have hk0 : (k == 0) = false := by simpa using hk
    have hk1 : ¬ k = 0 := by simpa using hk
    have c1 := Below.cells hb1
    have f1 := Below.frozens hb1
    have z1 := hb1.size
    try simp only [World.size_alloc, World.size_setCell, World.size_drew] at z1 c1 f1
    clear hk
    go_wp2_with fail
    refine bodyPost_ret (v := .tuple #[.agg #[.int .i64 0, .slice none 0 0], .int .i64 k]) (by simp [results, Try.f32, go_sem, ↓IntWalk.iteOmega, *]) rfl ?_
    exact ⟨0, none, 0, 0, [], k, rfl, Fresh.nil _ _, by omega, (by repeat (first | (with_reducible exact Below.refl _ _) | ((with_reducible refine Below.alloc ?_ ?_ _); rotate_left; (next => ((try dsimp only); (try simp only [World.size_alloc, World.size_setCell, World.size_drew]); omega))) | ((with_reducible refine Below.setCell ?_ ?_ _); rotate_left; (next => ((try dsimp only); (try simp only [World.size_alloc, World.size_setCell, World.size_drew]); omega))) | (with_reducible refine Below.drew ?_) | ((with_reducible refine Below.trans ?_ (Below.mono hb1 ?_)); rotate_left; (next => ((try dsimp only); (try simp only [World.size_alloc, World.size_setCell, World.size_drew]); omega)))))⟩
end
end Go.Proofs.Ytpomdnglknbanaa

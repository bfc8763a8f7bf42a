/-
  The walk of the statements' own values: at most 64 values out of whatever integers.
-/
import Derived.Test.YtlnagfmaiabhaaaLs
import Derived.Test.YtlnagfmaiabhaaaCm
set_option linter.unusedSimpArgs false
set_option linter.unusedVariables false
namespace Go.Proofs.Ytlnagfmaiabhaaa
open Go.RowKit

/-- The values out of l. -/
def vals (l : List Int) : List Int := (l.take 64).map fun x => within x 16777217
theorem vals_len (l : List Int) : (vals l).length = min 64 l.length := by simp [vals]
theorem vals_btw (l : List Int) : Btw 0 16777216 (vals l) := by
  intro x hx
  obtain ⟨y, _, rfl⟩ := List.mem_map.1 hx
  have := within_bd y (n := 16777217) (by omega)
  omega
theorem vals_get {l : List Int} {k : Nat} (h : k < (vals l).length) : (vals l).getD k 0 = within (l.getD k 0) 16777217 := by
  have h2 := h
  rw [vals_len] at h2
  simp [vals, List.getD, List.getElem?_take, show k < 64 by omega, show k < l.length by omega]

set_option maxRecDepth 20000 in
set_option maxHeartbeats 1000000 in
theorem values_any (A : Option Addr) (n c : Nat) (l : List Int) (w : World) (h : InRow w A n c l) :
    Calls Try.prog 42 #[.slice A n c] w fun e w' => ∃ A' c', e = .returned (.slice A' (vals l).length c') ∧ InRow w' A' (vals l).length c' (vals l) ∧ Below w.heap.size w w' := by
  obtain ⟨hr, hc, hm, _⟩ := h
  unfold maxLen at hm
  have hl := hr.len
  have hv := vals_len l
  rw [hl] at hv
  obtain ⟨i0, hi, hz0, hz1, hz2⟩ := info_parts info_int
  have hcell : ∀ k, k < (vals l).length → (0 : Nat) < n := fun k hk => by omega
  obtain ⟨m, hmv⟩ : ∃ m, m = (vals l).length := ⟨_, rfl⟩
  rw [← hmv] at hv ⊢
  have hml : m ≤ 64 := by omega
  have hmn : m ≤ n := by omega
  have HM := Lib.hid hmv
  have HL := Lib.hid hl
  have hB : ∀ k, k < m → ∃ b off, A = some ⟨b, off, none⟩ ∧ b < w.heap.size ∧ w.cell? ⟨b, off + k, none⟩ = some (.int .i64 (l.getD k 0)) := fun k hk => by
    obtain ⟨b, off, e, lt, hc⟩ := hr.at (by omega)
    exact ⟨b, off, e, lt, hc k (by omega)⟩
  have HB := Lib.hid hB
  clear hmv hl hcell hB hr
  have hcase : n ≤ 64 ∧ n = m ∨ 64 < n ∧ m = 64 := by omega
  clear hv
  rcases hcase with ⟨h64, rfl⟩ | ⟨h64, rfl⟩
  all_goals
    go_enter Try.func42, Try.ntmps42
    go_wp2_with fail
  · go_loopw [3, 12] (fun v i wr => ∃ k : Nat, k ≤ n ∧ i = .int .i64 k ∧ wr.ownsRow w.heap.size 3 1 v k (((vals l).take k).map (Value.int .i64)) ∧ Below w.heap.size w wr)
      (fun _ i _ => n - (intOf i).toNat)
    case atStart => exact ⟨0, Nat.zero_le _, rfl, World.ownsRow_nil _ _ _ _, Below.refl _ _⟩
    case round =>
      obtain ⟨k, hk, rfl, hown, bel⟩ := hrel
      by_cases hlt : k < n
      · obtain ⟨b, off, hA, lt, hx0⟩ := HB.out k hlt
        subst hA
        have hx := (bel.cell (p := ⟨b, off + k, none⟩) lt).trans hx0
        have hsz := bel.size
        clear hx0
        obtain ⟨x, hxv⟩ : ∃ x, x = l.getD k 0 := ⟨_, rfl⟩
        rw [← hxv] at hx
        have HX := Lib.hid hxv
        clear hxv
        obtain ⟨y, hyv⟩ : ∃ y, y = within x 16777217 := ⟨_, rfl⟩
        have HY := Lib.hid hyv
        clear hyv
        go_wp2_with fail
        refine (within_any x 16777217 y _ (by omega) (by omega) HY.out.symm).mono ?_
        rintro e w' ⟨rfl, rfl⟩
        go_wp2_with (at_builtin; refine wpList_append_own _ rfl _ _ 32 rfl w.heap.size 3 i0 (.int .i64 0) 1 8 Try.underlying32 hi hz0 hz1 hz2 rfl (by decide) _ _ _ rfl (hown.alloc _) ⟨wr.heap.size, 0, none⟩ 1 1 [.int .i64 y] rfl rfl ?c1 ?c2 ?c3 ?c4 ?c5 ?_)
        case c1 =>
          intro j u hj
          match j, hj with
          | 0, hj => simp at hj; subst hj; simp [Addr.add]
        case c2 => intro u hu; simp at hu; subst hu; rfl
        case c3 => unfold maxLen; omega
        case c4 => omega
        case c5 => simp; omega
        · intro v' w1 hown' hgrow _
          have hrow := hown.lt
          have bel' := (bel.alloc hsz _).grown hgrow (by simp; omega) (fun g hg => (hrow g hg).1)
          have htk : (vals l).take (k + 1) = (vals l).take k ++ [y] := by
            rw [take_snoc _ (by have := HM.out; omega), vals_get (by have := HM.out; omega), ← HX.out, ← HY.out]
          have hown2 : w1.ownsRow w.heap.size 3 1 v' (k + 1) (((vals l).take (k + 1)).map (Value.int .i64)) := by rw [htk]; simpa [List.map_append, List.map_take] using hown'
          clear hgrow hown hrow hx htk hown'
          go_wp2_with fail
          go_roundw
          case rel => exact ⟨k + 1, by omega, by go_num, hown2, bel'⟩
          case measure => simp [intOf]; omega
      · obtain rfl : k = n := by omega
        go_wp2_with fail
        rw [List.take_of_length_le (by have := HM.out; omega)] at hown
        obtain ⟨A', c', rfl, q1, q2, q3⟩ := own_form hown
        go_ret
        exact ⟨A', c', rfl, ⟨Row.of_own hown, q1, q2, q3⟩, bel⟩
  · go_loopw [3, 12] (fun v i wr => ∃ k : Nat, k ≤ 64 ∧ i = .int .i64 k ∧ wr.ownsRow w.heap.size 3 1 v k (((vals l).take k).map (Value.int .i64)) ∧ Below w.heap.size w wr)
      (fun _ i _ => 64 - (intOf i).toNat)
    case atStart => exact ⟨0, Nat.zero_le _, rfl, World.ownsRow_nil _ _ _ _, Below.refl _ _⟩
    case round =>
      obtain ⟨k, hk, rfl, hown, bel⟩ := hrel
      by_cases hlt : k < 64
      · obtain ⟨b, off, hA, lt, hx0⟩ := HB.out k hlt
        subst hA
        have hx := (bel.cell (p := ⟨b, off + k, none⟩) lt).trans hx0
        have hsz := bel.size
        clear hx0
        obtain ⟨x, hxv⟩ : ∃ x, x = l.getD k 0 := ⟨_, rfl⟩
        rw [← hxv] at hx
        have HX := Lib.hid hxv
        clear hxv
        obtain ⟨y, hyv⟩ : ∃ y, y = within x 16777217 := ⟨_, rfl⟩
        have HY := Lib.hid hyv
        clear hyv
        go_wp2_with fail
        refine (within_any x 16777217 y _ (by omega) (by omega) HY.out.symm).mono ?_
        rintro e w' ⟨rfl, rfl⟩
        go_wp2_with (at_builtin; refine wpList_append_own _ rfl _ _ 32 rfl w.heap.size 3 i0 (.int .i64 0) 1 8 Try.underlying32 hi hz0 hz1 hz2 rfl (by decide) _ _ _ rfl (hown.alloc _) ⟨wr.heap.size, 0, none⟩ 1 1 [.int .i64 y] rfl rfl ?c1 ?c2 ?c3 ?c4 ?c5 ?_)
        case c1 =>
          intro j u hj
          match j, hj with
          | 0, hj => simp at hj; subst hj; simp [Addr.add]
        case c2 => intro u hu; simp at hu; subst hu; rfl
        case c3 => unfold maxLen; omega
        case c4 => omega
        case c5 => simp; omega
        · intro v' w1 hown' hgrow _
          have hrow := hown.lt
          have bel' := (bel.alloc hsz _).grown hgrow (by simp; omega) (fun g hg => (hrow g hg).1)
          have htk : (vals l).take (k + 1) = (vals l).take k ++ [y] := by
            rw [take_snoc _ (by have := HM.out; omega), vals_get (by have := HM.out; omega), ← HX.out, ← HY.out]
          have hown2 : w1.ownsRow w.heap.size 3 1 v' (k + 1) (((vals l).take (k + 1)).map (Value.int .i64)) := by rw [htk]; simpa [List.map_append, List.map_take] using hown'
          clear hgrow hown hrow hx htk hown'
          go_wp2_with fail
          go_roundw
          case rel => exact ⟨k + 1, by omega, by go_num, hown2, bel'⟩
          case measure => simp [intOf]; omega
      · obtain rfl : k = 64 := by omega
        go_wp2_with fail
        rw [List.take_of_length_le (by have := HM.out; omega)] at hown
        obtain ⟨A', c', rfl, q1, q2, q3⟩ := own_form hown
        go_ret
        exact ⟨A', c', rfl, ⟨Row.of_own hown, q1, q2, q3⟩, bel⟩
/-- The same with its parts named. -/
theorem values_at (A : Option Addr) (n c : Nat) (l : List Int) (w : World) (h : InRow w A n c l) (ys : List Int) (m : Nat) (hy : vals l = ys) (hm : ys.length = m) :
    Calls Try.prog 42 #[.slice A n c] w fun e w' => ∃ A' c', e = .returned (.slice A' m c') ∧ InRow w' A' m c' ys ∧ Below w.heap.size w w' := by
  subst hy hm
  exact values_any A n c l w h
/-- What is so of values. -/
theorem vals_facts (l : List Int) : ∃ ys m, vals l = ys ∧ ys.length = m ∧ m ≤ 64 ∧ Btw 0 16777216 ys := ⟨_, _, rfl, rfl, by rw [vals_len]; omega, vals_btw l⟩
end Go.Proofs.Ytlnagfmaiabhaaa

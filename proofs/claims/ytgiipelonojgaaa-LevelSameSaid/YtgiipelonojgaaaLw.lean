/-
  What the laws of levels share: the statements' own sum, levelBegun; a window and all that is asked of it.
-/
import Derived.Test.YtgiipelonojgaaaLv
set_option linter.unusedSimpArgs false
set_option linter.unusedVariables false
namespace Go.Proofs.Ytgiipelonojgaaa
open Go.RowKit

theorem same_below {P : Program} {f : FuncId} {args : Array Value} {w : World} {v : Value} (h : Calls P f args w fun e w' => e = .returned v ∧ w = w') : Calls P f args w fun e w' => e = .returned v ∧ Below w.heap.size w w' :=
  h.mono fun _ _ ⟨he, hw⟩ => ⟨he, hw ▸ Below.refl _ _⟩
/-- A window, and all that is asked of it. -/
theorem lev_pack (l : List Int) : ∃ (ys : List Int) (n : Nat) (S Q X : Int), wind l = ys ∧ ys.length = n ∧ 1 ≤ n ∧ n ≤ 64 ∧ Btw 0 16777216 ys ∧ sumI ys = S ∧ sqI ys = Q ∧ (n : Int) * Q - S * S = X ∧ SumsOK n S Q ∧ 0 ≤ X ∧ X ≤ 1152921504606846976 := by
  obtain ⟨ys, n, h1, h2, h3, h4, h5⟩ := wind_facts l
  have ok := sumsOK_of h5 (by omega)
  rw [h2] at ok
  have bd := ok.bd
  exact ⟨ys, n, _, _, _, h1, h2, h3, h4, h5, rfl, rfl, rfl, ok, by omega, by omega⟩

set_option maxHeartbeats 1000000 in
theorem sum_ok (A : Option Addr) (n c : Nat) (l : List Int) (S : Int) (w : World) (hr : Row w A n l) (hm : n ≤ 64) (hb : Btw 0 16777216 l) (hS : sumI l = S) :
    Calls Try.prog 61 #[.slice A n c] w fun e w' => e = .returned (.int .i64 S) ∧ w = w' := by
  have HB := Lib.hid hr.each
  have HL := Lib.hid hr.len
  have HS := Lib.hid hS
  have HV := Lib.hid hb
  clear hr hS hb
  go_enter Try.func61, Try.ntmps61
  go_wp2_with fail
  go_loop [3, 8] (fun v i => ∃ (k : Nat) (D : Int), k ≤ n ∧ i = .int .i64 k ∧ v = .int .i64 D ∧ sumI (l.take k) = D) (fun _ i => n - (intOf i).toNat)
  case atStart => exact ⟨0, 0, Nat.zero_le _, rfl, rfl, by simp [sumI]⟩
  case round =>
    obtain ⟨k, D, hk, rfl, rfl, hD⟩ := hrel
    have d1 := sumI_bd (HV.out.take k)
    have hlen : (l.take k).length ≤ 64 := by simp; omega
    rw [hD] at d1
    have d3 : 0 ≤ D ∧ D ≤ 1073741824 := by omega
    by_cases hlt : k < n
    · have d2 := sumI_snoc l (k := k) (by have := HL.out; omega)
      have hx2 := HV.out.get (k := k) (by have := HL.out; omega)
      rw [hD] at d2
      obtain ⟨bkx, offx, hAx, ltx, hrx⟩ := HB.out k hlt
      subst hAx
      obtain ⟨x, hvx, hxx⟩ := name_num hrx
      have HX := Lib.hid hvx
      clear hvx hrx
      rw [← HX.out] at hx2 d2
      have D2 := Lib.hid d2
      clear d1 hlen hD d2
      go_wp2_with fail
      go_round
      case rel => exact ⟨k + 1, _, by omega, by go_num, rfl, D2.out⟩
      case measure => simp [intOf]; omega
    · obtain rfl : n = k := by omega
      rw [List.take_of_length_le (by have := HL.out; omega), HS.out] at hD
      subst hD
      clear d1 hlen
      go_wp2_with fail
      go_ret
      exact ⟨rfl, rfl⟩

theorem lev_lit : LevR 1 (late0 1 2 5) 3 := by unfold LevR late0; decide
set_option maxHeartbeats 1000000 in
theorem lbegun_ok (w : World) :
    Calls Try.prog 55 #[] w fun e w' => e = .returned (.bool true) ∧ Below w.heap.size w w' := by
  have qa := alloc_cells
  have qf := alloc_frozens
  have hl := level_ok 1 1 5 2 4 0 1 3 _ 1 1 [2] _ (Row.lit w 3 [2] 1 rfl) (by omega) (by omega) (by omega) (by decide) (by omega) (by omega) rfl rfl (by unfold SumsOK; omega) (by omega) (by decide) lev_lit
  simp only [List.map_cons, List.map_nil] at hl
  have HL := Lib.hid hl
  clear hl
  go_enter Try.func55, Try.ntmps55
  go_wp2_with fail
  refine (HL.out).mono ?_
  rintro e w1 ⟨rfl, hb1⟩
  have z1 := hb1.size
  have c1 := Below.cells hb1
  have f1 := Below.frozens hb1
  try simp only [World.size_alloc, World.size_setCell, World.size_drew] at z1 c1 f1
  go_wp2_with fail
  go_ret
  exact ⟨rfl, (by repeat (first | (with_reducible exact Below.refl _ _) | ((with_reducible refine Below.alloc ?_ ?_ _); rotate_left; (next => ((try dsimp only); (try simp only [World.size_alloc, World.size_setCell, World.size_drew]); omega))) | ((with_reducible refine Below.setCell ?_ ?_ _); rotate_left; (next => ((try dsimp only); (try simp only [World.size_alloc, World.size_setCell, World.size_drew]); omega))) | (with_reducible refine Below.drew ?_) | ((with_reducible refine Below.trans ?_ (Below.mono hb1 ?_)); rotate_left; (next => ((try dsimp only); (try simp only [World.size_alloc, World.size_setCell, World.size_drew]); omega)))))⟩
end Go.Proofs.Ytgiipelonojgaaa

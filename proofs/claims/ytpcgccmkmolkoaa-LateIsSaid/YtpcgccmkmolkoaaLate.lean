/-
  The walk of chen.Late.
-/
import Derived.Test.YtpcgccmkmolkoaaWi
set_option linter.unusedSimpArgs false
set_option linter.unusedVariables false
namespace Go.Proofs.Ytpcgccmkmolkoaa
open Go.RowKit

theorem max_zero {l : List Int} {M : Int} (h0 : 0 < l.length) (hb : Btw 0 16777216 l) (h : IsMax (0 :: l) M) : IsMax l M := by
  obtain ⟨h1, h2⟩ := h
  refine ⟨?_, fun x hx => h2 x (List.mem_cons_of_mem _ hx)⟩
  rcases List.mem_cons.1 h1 with rfl | h1
  · match l, h0 with
    | x :: l, _ =>
      have a := h2 x (by simp)
      have b := (hb x (by simp)).1
      have : x = 0 := by omega
      simp [this]
  · exact h1

set_option maxHeartbeats 4000000 in
theorem late_ok (z : Int) (A : Option Addr) (n c : Nat) (l : List Int) (t s M : Int) (b : Bool) (w : World) (hr : Row w A n l) (hz : 1 ≤ z ∧ z ≤ 64) (hn : (n : Int) ≤ z) (h0 : 0 < n) (hb : Btw 0 16777216 l)
    (ht : 0 ≤ t ∧ t ≤ 1073741824) (hs : 0 ≤ s ∧ s ≤ 16777216) (hM : IsMax l M) (hd : decide (M + s < t) = b) :
    Calls Try.prog 34 #[.agg #[.int .i64 z, .slice A n c], .int .i64 t, .int .i64 s] w fun e w' => e = .returned (.tuple #[.bool b, .int .i64 0]) ∧ Below w.heap.size w w' := by
  have hc : ∀ w', Row w' A n l → _ := fun w' h => wcheck_ok z A n c l w' h hz hn hb
  have HC := Lib.hid hc
  have HR := Lib.hid hr
  have HL := Lib.hid hr.len
  have HV := Lib.hid hb
  have HM := Lib.hid hM
  have HD := Lib.hid hd
  have hne : ((n : Int) == 0) = false := by simp; omega
  have Mb := hb M hM.1
  obtain ⟨t0, t1⟩ := ht
  obtain ⟨s0, s1⟩ := hs
  have qa := alloc_cells
  have qf := alloc_frozens
  clear hc hr hb hM hd
  go_enter Try.func34, Try.ntmps34
  go_wp2_with fail
  refine (HC.out _ (HR.out.below (by repeat (first | (with_reducible exact Below.refl _ _) | ((with_reducible refine Below.alloc ?_ ?_ _); rotate_left; (next => ((try dsimp only); (try simp only [World.size_alloc, World.size_setCell, World.size_drew]); omega))) | ((with_reducible refine Below.setCell ?_ ?_ _); rotate_left; (next => ((try dsimp only); (try simp only [World.size_alloc, World.size_setCell, World.size_drew]); omega))) | (with_reducible refine Below.drew ?_) | (refine Below.trans ?_ (by assumption)))))).mono ?_
  rintro e w1 ⟨rfl, hb1⟩
  have z1 := hb1.size
  have c1 := Below.cells hb1
  have f1 := Below.frozens hb1
  try simp only [World.size_alloc, World.size_setCell, World.size_drew] at z1 c1 f1
  go_wp2_with fail
  have bel : Below w.heap.size w w1 := (by repeat (first | (with_reducible exact Below.refl _ _) | ((with_reducible refine Below.alloc ?_ ?_ _); rotate_left; (next => ((try dsimp only); (try simp only [World.size_alloc, World.size_setCell, World.size_drew]); omega))) | ((with_reducible refine Below.setCell ?_ ?_ _); rotate_left; (next => ((try dsimp only); (try simp only [World.size_alloc, World.size_setCell, World.size_drew]); omega))) | (with_reducible refine Below.drew ?_) | ((with_reducible refine Below.trans ?_ (Below.mono hb1 ?_)); rotate_left; (next => ((try dsimp only); (try simp only [World.size_alloc, World.size_setCell, World.size_drew]); omega)))))
  have HB := Lib.hid (HR.out.below (w' := w1) (by repeat (first | (with_reducible exact Below.refl _ _) | ((with_reducible refine Below.alloc ?_ ?_ _); rotate_left; (next => ((try dsimp only); (try simp only [World.size_alloc, World.size_setCell, World.size_drew]); omega))) | ((with_reducible refine Below.setCell ?_ ?_ _); rotate_left; (next => ((try dsimp only); (try simp only [World.size_alloc, World.size_setCell, World.size_drew]); omega))) | (with_reducible refine Below.drew ?_) | ((with_reducible refine Below.trans ?_ (Below.mono hb1 ?_)); rotate_left; (next => ((try dsimp only); (try simp only [World.size_alloc, World.size_setCell, World.size_drew]); omega)))))).each
  clear c1 f1 z1 qa qf
  go_loop [9, 38] (fun v i => ∃ (k : Nat) (D : Int), k ≤ n ∧ i = .int .i64 k ∧ v = .int .i64 D ∧ IsMax (0 :: l.take k) D) (fun _ i => n - (intOf i).toNat)
  case atStart => exact ⟨0, 0, Nat.zero_le _, rfl, rfl, IsMax.one 0⟩
  case round =>
    obtain ⟨k, D, hk, rfl, rfl, hD⟩ := hrel
    have HD2 := Lib.hid hD
    clear hD
    by_cases hlt : k < n
    · obtain ⟨bkx, offx, hAx, ltx, hrx⟩ := HB.out k hlt
      subst hAx
      obtain ⟨x, hvx, hxx⟩ := name_num hrx
      have HX := Lib.hid hvx
      clear hvx hrx
      have h2 := HD2.out.snoc (x := x)
      rw [List.cons_append, HX.out, ← take_snoc l (k := k) (by have := HL.out; omega), ← HX.out] at h2
      by_cases hcx : D < x
      · rw [if_pos hcx] at h2
        have H2 := Lib.hid h2
        clear h2
        go_wp2_with fail
        go_round
        case rel => exact ⟨k + 1, x, by omega, by go_num, rfl, H2.out⟩
        case measure => simp [intOf]; omega
      · rw [if_neg hcx] at h2
        have H2 := Lib.hid h2
        clear h2
        go_wp2_with fail
        go_round
        case rel => exact ⟨k + 1, D, by omega, by go_num, rfl, H2.out⟩
        case measure => simp [intOf]; omega
    · obtain rfl : n = k := by omega
      have e := HD2.out
      rw [List.take_of_length_le (by have := HL.out; omega)] at e
      have e2 := (max_zero (by have := HL.out; omega) HV.out e).same HM.out
      subst e2
      clear e
      go_wp2_with fail
      go_ret2
      exact ⟨by rw [HD.out]; rfl, bel⟩
end Go.Proofs.Ytpcgccmkmolkoaa

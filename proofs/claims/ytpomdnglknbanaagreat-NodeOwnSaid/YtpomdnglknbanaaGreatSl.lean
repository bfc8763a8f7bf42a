/-
  The walks of slices' functions on rows that are only read: IndexFunc, ContainsFunc (with win.List's predicate), Min, Max; win.Val, win.List.
-/
import Derived.Test.YtpomdnglknbanaaGreatLs
import Derived.Test.YtpomdnglknbanaaGreatCm
set_option linter.unusedSimpArgs false
set_option linter.unusedVariables false
namespace Go.Proofs.YtpomdnglknbanaaGreat
open Go.RowKit

set_option maxHeartbeats 400000 in
theorem val_ok (n : Int) (a : 0 ≤ n) (b : n ≤ 16777216) (w : World) :
    Calls Tryz.prog 71 #[.int .i64 n] w fun e w' => e = .returned (.bool true) ∧ w = w' := by
  go_enter Tryz.func71, Tryz.ntmps71
  go_wp2
  go_ret
  exact ⟨rfl, rfl⟩
set_option maxHeartbeats 400000 in
theorem val_no (n : Int) (h : n < 0 ∨ 16777216 < n) (w : World) :
    Calls Tryz.prog 71 #[.int .i64 n] w fun e w' => e = .returned (.bool false) ∧ w = w' := by
  rcases h with h | h
  · have h' : decide (0 ≤ n) = false := by simp; omega
    go_enter Tryz.func71, Tryz.ntmps71
    go_wp2
    go_ret
    exact ⟨rfl, rfl⟩
  · have h' : decide (n ≤ 16777216) = false := by simp; omega
    have h0 : 0 ≤ n := by omega
    go_enter Tryz.func71, Tryz.ntmps71
    go_wp2
    go_ret
    exact ⟨rfl, rfl⟩
set_option maxHeartbeats 400000 in
theorem pred_ok (n : Int) (a : 0 ≤ n) (b : n ≤ 16777216) (w : World) :
    Calls Tryz.prog 100 #[.int .i64 n] w fun e w' => e = .returned (.bool false) ∧ w = w' := by
  go_enter Tryz.func100, Tryz.ntmps100
  go_wp2_with fail
  refine (val_ok n a b _).mono ?_
  rintro e w' ⟨rfl, rfl⟩
  go_wp2_with fail
  go_ret
  exact ⟨rfl, rfl⟩
set_option maxHeartbeats 400000 in
theorem pred_no (n : Int) (h : n < 0 ∨ 16777216 < n) (w : World) :
    Calls Tryz.prog 100 #[.int .i64 n] w fun e w' => e = .returned (.bool true) ∧ w = w' := by
  have H := Lib.hid h
  clear h
  go_enter Tryz.func100, Tryz.ntmps100
  go_wp2_with fail
  refine (val_no n H.out _).mono ?_
  rintro e w' ⟨rfl, rfl⟩
  go_wp2_with fail
  go_ret
  exact ⟨rfl, rfl⟩

set_option maxHeartbeats 1000000 in
theorem index_none (A : Option Addr) (n c : Nat) (l : List Int) (w : World) (h : Row w A n l) (hm : n ≤ 9223372036854775807) (hb : Btw 0 16777216 l) :
    Calls Tryz.prog 105 #[.slice A n c, .func (.func 100) #[] #[]] w fun e w' => e = .returned (.int .i64 (-1)) ∧ w = w' := by
  have HB := Lib.hid h.each
  have HL := Lib.hid h.len
  have HV := Lib.hid hb
  clear h hb
  go_enter Tryz.func105, Tryz.ntmps105
  go_wp2_with fail
  go_loop [8] (fun i => ∃ k : Nat, k ≤ n ∧ i = .int .i64 k) (fun i => n - (intOf i).toNat)
  case atStart => exact ⟨0, Nat.zero_le _, rfl⟩
  case round =>
    obtain ⟨k, hk, rfl⟩ := hrel
    by_cases hlt : k < n
    · obtain ⟨bkx, offx, hAx, ltx, hrx⟩ := HB.out k hlt
      subst hAx
      obtain ⟨x, hvx, hxx⟩ := name_num hrx
      have HX := Lib.hid hvx
      clear hvx hrx
      have hv := HV.out.get (k := k) (by have := HL.out; omega)
      rw [← HX.out] at hv
      go_wp2_with fail
      refine (pred_ok x hv.1 hv.2 _).mono ?_
      rintro e w' ⟨rfl, rfl⟩
      go_wp2_with fail
      go_round
      case rel => exact ⟨k + 1, by omega, by go_num⟩
      case measure => simp [intOf]; omega
    · obtain rfl : k = n := by omega
      go_wp2_with fail
      go_ret
      exact ⟨rfl, rfl⟩
def AnIdx (w : World) (e : Ending) (w' : World) : Prop := ∃ k : Nat, k ≤ 9223372036854775807 ∧ e = .returned (.int .i64 k) ∧ w = w'
set_option maxHeartbeats 1000000 in
theorem index_some (A : Option Addr) (n c : Nat) (l : List Int) (w : World) (h : Row w A n l) (hm : n ≤ 9223372036854775807) (hb : ¬ Btw 0 16777216 l) :
    Calls Tryz.prog 105 #[.slice A n c, .func (.func 100) #[] #[]] w (AnIdx w) := by
  have HB := Lib.hid h.each
  have HL := Lib.hid h.len
  have HV := Lib.hid hb
  clear h hb
  go_enter Tryz.func105, Tryz.ntmps105
  go_wp2_with fail
  go_loop [8] (fun i => ∃ k : Nat, k ≤ n ∧ i = .int .i64 k ∧ Btw 0 16777216 (l.take k)) (fun i => n - (intOf i).toNat)
  case atStart => exact ⟨0, Nat.zero_le _, rfl, Btw.nil _ _⟩
  case round =>
    obtain ⟨k, hk, rfl, hpre⟩ := hrel
    by_cases hlt : k < n
    · obtain ⟨bkx, offx, hAx, ltx, hrx⟩ := HB.out k hlt
      subst hAx
      obtain ⟨x, hvx, hxx⟩ := name_num hrx
      have HX := Lib.hid hvx
      clear hvx hrx
      by_cases hv : 0 ≤ x ∧ x ≤ 16777216
      · have hpre' : Btw 0 16777216 (l.take (k + 1)) := by
          rw [take_snoc l (by have := HL.out; omega), ← HX.out]; exact hpre.append (Btw.one hv.1 hv.2)
        have HP := Lib.hid hpre'
        obtain ⟨v0, v1⟩ := hv
        clear hpre hpre'
        go_wp2_with fail
        refine (pred_ok x v0 v1 _).mono ?_
        rintro e w' ⟨rfl, rfl⟩
        go_wp2_with fail
        go_round
        case rel => exact ⟨k + 1, by omega, by go_num, HP.out⟩
        case measure => simp [intOf]; omega
      · have hv' : x < 0 ∨ 16777216 < x := by omega
        have H := Lib.hid hv'
        clear hv hv' hpre
        go_wp2_with fail
        refine (pred_no x H.out _).mono ?_
        rintro e w' ⟨rfl, rfl⟩
        go_wp2_with fail
        go_ret
        exact ⟨k, by omega, rfl, rfl⟩
    · obtain rfl : k = n := by omega
      rw [List.take_of_length_le (by have := HL.out; omega)] at hpre
      exact absurd hpre HV.out
set_option maxHeartbeats 400000 in
theorem cont_none (A : Option Addr) (n c : Nat) (l : List Int) (w : World) (h : Row w A n l) (hm : n ≤ 9223372036854775807) (hb : Btw 0 16777216 l) :
    Calls Tryz.prog 99 #[.slice A n c, .func (.func 100) #[] #[]] w fun e w' => e = .returned (.bool false) ∧ w = w' := by
  have C := Lib.hid (index_none A n c l w h hm hb)
  clear h hb
  go_enter Tryz.func99, Tryz.ntmps99
  go_wp2_with fail
  refine (C.out).mono ?_
  rintro e w' ⟨rfl, rfl⟩
  go_wp2_with fail
  go_ret
  exact ⟨rfl, rfl⟩
set_option maxHeartbeats 400000 in
theorem cont_some (A : Option Addr) (n c : Nat) (l : List Int) (w : World) (h : Row w A n l) (hm : n ≤ 9223372036854775807) (hb : ¬ Btw 0 16777216 l) :
    Calls Tryz.prog 99 #[.slice A n c, .func (.func 100) #[] #[]] w fun e w' => e = .returned (.bool true) ∧ w = w' := by
  have C := Lib.hid (index_some A n c l w h hm hb)
  clear h hb
  go_enter Tryz.func99, Tryz.ntmps99
  go_wp2_with fail
  refine C.out.mono ?_
  rintro e w' ⟨k, hk, rfl, rfl⟩
  go_wp2_with fail
  go_ret
  exact ⟨rfl, rfl⟩
/-- What win.List says of l. -/
theorem list_ok (A : Option Addr) (n c : Nat) (l : List Int) (w : World) (h : Row w A n l) (hm : n ≤ 64) (hb : Btw 0 16777216 l) :
    Calls Tryz.prog 89 #[.slice A n c] w fun e w' => e = .returned (.int .i64 0) ∧ w = w' := by
  have C := Lib.hid (cont_none A n c l w h (by omega) hb)
  clear h hb
  go_enter Tryz.func89, Tryz.ntmps89
  go_wp2_with fail
  refine (C.out).mono ?_
  rintro e w' ⟨rfl, rfl⟩
  go_wp2_with fail
  go_ret
  exact ⟨rfl, rfl⟩
theorem list_bad (A : Option Addr) (n c : Nat) (l : List Int) (w : World) (h : Row w A n l) (hm : n ≤ 64) (hb : ¬ Btw 0 16777216 l) :
    Calls Tryz.prog 89 #[.slice A n c] w fun e w' => e = .returned (.int .i64 1) ∧ w = w' := by
  have C := Lib.hid (cont_some A n c l w h (by omega) hb)
  clear h hb
  go_enter Tryz.func89, Tryz.ntmps89
  go_wp2_with fail
  refine (C.out).mono ?_
  rintro e w' ⟨rfl, rfl⟩
  go_wp2_with fail
  go_ret
  exact ⟨rfl, rfl⟩
theorem list_large (A : Option Addr) (n c : Nat) (w : World) (hm : 64 < n) (hn : n ≤ 9223372036854775807) :
    Calls Tryz.prog 89 #[.slice A n c] w fun e w' => e = .returned (.int .i64 2) ∧ w = w' := by
  go_enter Tryz.func89, Tryz.ntmps89
  go_wp2_with fail
  go_ret
  exact ⟨rfl, rfl⟩
end Go.Proofs.YtpomdnglknbanaaGreat

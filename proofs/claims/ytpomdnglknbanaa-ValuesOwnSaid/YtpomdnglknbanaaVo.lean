
/-
  The walks of package vote (look, Some) and of the statements' own levels.
-/
import Derived.Test.YtpomdnglknbanaaLs
import Derived.Test.YtpomdnglknbanaaCm
import Derived.Test.YtpomdnglknbanaaTl
set_option linter.unusedSimpArgs false
set_option linter.unusedVariables false
namespace Go.Proofs.Ytpomdnglknbanaa
open Go.RowKit

/-- The levels out of l. -/
def lvls (l : List Int) : List Int := (l.take 64).map fun x => within x 128
theorem lvls_len (l : List Int) : (lvls l).length = min 64 l.length := by simp [lvls]
theorem lvls_btw (l : List Int) : Btw 0 127 (lvls l) := by
  intro x hx
  obtain ⟨y, _, rfl⟩ := List.mem_map.1 hx
  have := within_bd y (n := 128) (by omega)
  omega
theorem lvls_get {l : List Int} {k : Nat} (h : k < (lvls l).length) : (lvls l).getD k 0 = within (l.getD k 0) 128 := by
  have h2 := h
  rw [lvls_len] at h2
  simp [lvls, List.getD, List.getElem?_take, show k < 64 by omega, show k < l.length by omega]

set_option maxHeartbeats 400000 in
theorem vpred_ok (n : Int) (a : 0 ≤ n) (b : n ≤ 127) (w : World) :
    Calls Try.prog 155 #[.int .i64 n] w fun e w' => e = .returned (.bool false) ∧ w = w' := by
  have h1 : ¬ n < 0 := by omega
  have h2 : ¬ 127 < n := by omega
  go_enter Try.func155, Try.ntmps155
  go_wp2_with fail
  go_ret
  exact ⟨rfl, rfl⟩
set_option maxHeartbeats 1000000 in
theorem vindex_none (A : Option Addr) (n c : Nat) (l : List Int) (w : World) (h : Row w A n l) (hm : n ≤ 9223372036854775807) (hb : Btw 0 127 l) :
    Calls Try.prog 160 #[.slice A n c, .func (.func 155) #[] #[]] w fun e w' => e = .returned (.int .i64 (-1)) ∧ w = w' := by
  have HB := Lib.hid h.each
  have HL := Lib.hid h.len
  have HV := Lib.hid hb
  clear h hb
  go_enter Try.func160, Try.ntmps160
  go_wp2_with fail
  go_loop [8] (fun i => ∃ k : Nat, k ≤ n ∧ i = .int .i64 k) (fun i => n - (intOf i).toNat)
  case atStart => exact ⟨0, Nat.zero_le _, rfl⟩
  case round =>
    obtain ⟨k, hk, rfl⟩ := hrel
    by_cases hlt : k < n
    · obtain ⟨bkx, offx, hAx, ltx, hrx⟩ := HB.out k hlt
      subst hAx
      obtain ⟨x, hvx, hxx⟩ := name_num hrx
      have HX := Lib.hid hvx
      clear hvx hrx
      have hv := HV.out.get (k := k) (by have := HL.out; omega)
      rw [← HX.out] at hv
      go_wp2_with fail
      refine (vpred_ok x hv.1 hv.2 _).mono ?_
      rintro e w' ⟨rfl, rfl⟩
      go_wp2_with fail
      go_round
      case rel => exact ⟨k + 1, by omega, by go_num⟩
      case measure => simp [intOf]; omega
    · obtain rfl : k = n := by omega
      go_wp2_with fail
      go_ret
      exact ⟨rfl, rfl⟩
set_option maxHeartbeats 400000 in
theorem vcont_none (A : Option Addr) (n c : Nat) (l : List Int) (w : World) (h : Row w A n l) (hm : n ≤ 9223372036854775807) (hb : Btw 0 127 l) :
    Calls Try.prog 146 #[.slice A n c, .func (.func 155) #[] #[]] w fun e w' => e = .returned (.bool false) ∧ w = w' := by
  have C := Lib.hid (vindex_none A n c l w h hm hb)
  clear h hb
  go_enter Try.func146, Try.ntmps146
  go_wp2_with fail
  refine (C.out).mono ?_
  rintro e w' ⟨rfl, rfl⟩
  go_wp2_with fail
  go_ret
  exact ⟨rfl, rfl⟩

theorem same_below {P : Program} {f : FuncId} {args : Array Value} {w : World} {v : Value} (h : Calls P f args w fun e w' => e = .returned v ∧ w = w') : Calls P f args w fun e w' => e = .returned v ∧ Below w.heap.size w w' :=
  h.mono fun _ _ ⟨he, hw⟩ => ⟨he, hw ▸ Below.refl _ _⟩
theorem vlook_ok (A : Option Addr) (n c : Nat) (l : List Int) (w : World) (h : Row w A n l) (hm : n ≤ 64) (hb : Btw 0 127 l) :
    Calls Try.prog 133 #[.slice A n c] w fun e w' => e = .returned (.int .i64 0) ∧ w = w' := by
  have C := Lib.hid (vcont_none A n c l w h (by omega) hb)
  clear h hb
  go_enter Try.func133, Try.ntmps133
  go_wp2_with fail
  refine (C.out).mono ?_
  rintro e w' ⟨rfl, rfl⟩
  go_wp2_with fail
  go_ret
  exact ⟨rfl, rfl⟩

end Go.Proofs.Ytpomdnglknbanaa

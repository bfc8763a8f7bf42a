/-
  The walk of rank.Far, and what is so of the sum of all distances.
-/
import Derived.Test.YtpomdnglknbanaaSl
set_option linter.unusedSimpArgs false
set_option linter.unusedVariables false
namespace Go.Proofs.Ytpomdnglknbanaa
open Go.RowKit

/-- How far x is from c. -/
def dist (x c : Int) : Int := if x - c < c - x then c - x else x - c
def far (c : Int) : List Int → Int
  | [] => 0
  | x :: l => dist x c + far c l
theorem dist_bd {x c M : Int} (h : 0 ≤ x ∧ x ≤ M) (h' : 0 ≤ c ∧ c ≤ M) : 0 ≤ dist x c ∧ dist x c ≤ M := by unfold dist; split <;> omega
theorem far_append (c : Int) (a b : List Int) : far c (a ++ b) = far c a + far c b := by
  induction a with
  | nil => simp [far]
  | cons x a ih => simp only [List.cons_append, far, ih]; omega
theorem far_snoc (c : Int) (l : List Int) {k : Nat} (h : k < l.length) : far c (l.take (k + 1)) = far c (l.take k) + dist (l.getD k 0) c := by
  rw [take_snoc l h, far_append]; simp [far]
theorem far_bd {l : List Int} {c M : Int} (h : Btw 0 M l) (h' : 0 ≤ c ∧ c ≤ M) : 0 ≤ far c l ∧ far c l ≤ l.length * M := by
  induction l with
  | nil => simp [far]
  | cons x l ih =>
    have a := dist_bd h.head h'
    have b := ih h.tail
    simp only [far, List.length_cons, Int.natCast_add, Int.add_mul]
    omega
theorem far_tri (a b : Int) (l : List Int) : l.length * dist a b ≤ far a l + far b l := by
  induction l with
  | nil => simp [far]
  | cons x l ih =>
    have h : dist a b ≤ dist x a + dist x b := by unfold dist; split <;> split <;> split <;> omega
    simp only [far, List.length_cons, Int.natCast_add, Int.add_mul]
    omega
theorem far_step (a : Int) (l : List Int) : far (a + 1) l - far a l ≤ l.length ∧ far a l - far (a + 1) l ≤ l.length := by
  induction l with
  | nil => simp [far]
  | cons x l ih =>
    have h : dist x (a + 1) - dist x a ≤ 1 ∧ dist x a - dist x (a + 1) ≤ 1 := by unfold dist; split <;> split <;> omega
    simp only [far, List.length_cons, Int.natCast_add]
    omega

set_option maxHeartbeats 1000000 in
theorem far_ok (A : Option Addr) (n c : Nat) (l : List Int) (y f : Int) (w : World) (hr : Row w A n l) (hm : n ≤ 64) (hb : Btw 0 16777216 l) (hy : 0 ≤ y ∧ y ≤ 16777216) (hf : far y l = f) :
    Calls Try.prog 82 #[.slice A n c, .int .i64 y] w fun e w' => e = .returned (.tuple #[.int .i64 f, .int .i64 0]) ∧ w = w' := by
  have HB := Lib.hid hr.each
  have HL := Lib.hid hr.len
  have HF := Lib.hid hf
  have HV := Lib.hid hb
  have C := Lib.hid (list_ok A n c l w hr hm hb)
  obtain ⟨y0, y1⟩ := hy
  clear hr hf hb
  go_enter Try.func82, Try.ntmps82
  go_wp2_with fail
  refine (C.out).mono ?_
  rintro e w' ⟨rfl, rfl⟩
  go_wp2_with fail
  refine (val_ok y y0 y1 _).mono ?_
  rintro e w' ⟨rfl, rfl⟩
  go_wp2_with fail
  go_loop [7, 20] (fun v i => ∃ (k : Nat) (D : Int), k ≤ n ∧ i = .int .i64 k ∧ v = .int .i64 D ∧ far y (l.take k) = D) (fun _ i => n - (intOf i).toNat)
  case atStart => exact ⟨0, 0, Nat.zero_le _, rfl, rfl, by simp [far]⟩
  case round =>
    obtain ⟨k, D, hk, rfl, rfl, hD⟩ := hrel
    have d1 := far_bd (HV.out.take k) (c := y) (by omega)
    have hlen : (l.take k).length ≤ 64 := by simp; omega
    rw [hD] at d1
    have d3 : 0 ≤ D ∧ D ≤ 1073741824 := by omega
    by_cases hlt : k < n
    · have d2 := far_snoc y l (k := k) (by have := HL.out; omega)
      have hx2 := HV.out.get (k := k) (by have := HL.out; omega)
      rw [hD] at d2
      obtain ⟨bkx, offx, hAx, ltx, hrx⟩ := HB.out k hlt
      subst hAx
      obtain ⟨x, hvx, hxx⟩ := name_num hrx
      have HX := Lib.hid hvx
      clear hvx hrx
      rw [← HX.out] at hx2 d2
      clear d1 hlen hD
      by_cases hc : x - y < y - x
      · have e : dist x y = y - x := by unfold dist; rw [if_pos hc]
        rw [e] at d2
        have D2 := Lib.hid d2
        clear d2 e
        go_wp2_with fail
        go_round
        case rel => exact ⟨k + 1, _, by omega, by go_num, rfl, D2.out⟩
        case measure => simp [intOf]; omega
      · have e : dist x y = x - y := by unfold dist; rw [if_neg hc]
        rw [e] at d2
        have D2 := Lib.hid d2
        clear d2 e
        go_wp2_with fail
        go_round
        case rel => exact ⟨k + 1, _, by omega, by go_num, rfl, D2.out⟩
        case measure => simp [intOf]; omega
    · obtain rfl : k = n := by omega
      rw [List.take_of_length_le (by have := HL.out; omega), HF.out] at hD
      subst hD
      clear d1 hlen
      go_wp2_with fail
      go_ret2
      exact ⟨rfl, rfl⟩
end Go.Proofs.Ytpomdnglknbanaa

/-
  rank.Sort, rank.Rank, vote.Level.
-/
import Derived.Test.YtpomdnglknbanaaSo
import Derived.Test.YtpomdnglknbanaaSl
import Derived.Test.YtpomdnglknbanaaVo
set_option linter.unusedSimpArgs false
set_option linter.unusedVariables false
namespace Go.Proofs.Ytpomdnglknbanaa
open Go.RowKit

theorem own_inRow {w : World} {base n c : Nat} {A : Option Addr} {l : List Int} (h : w.ownsRow base 3 1 (.slice A n c) n (l.map (Value.int .i64))) : InRow w A n c l := by
  obtain ⟨A', c', e, h1, h2, h3⟩ := own_form h
  injection e with e1 e2 e3
  subst e1 e3
  exact ⟨Row.of_own h, h1, h2, h3⟩

set_option maxHeartbeats 1000000 in
/-- slices.Sorted(slices.Values(l)), the second call. -/
theorem sorted_at (A : Option Addr) (n c : Nat) (l : List Int) (w : World) (hm : n ≤ 64) (hr : Row w A n l) :
    Calls Try.prog 127 #[.func (.func 150) #[] #[.pointer (some ⟨w.heap.size, 0, none⟩)]] (w.alloc (.cells #[.slice A n c] 22)) fun e W' => ∃ A' c', e = .returned (.slice A' n c') ∧ W'.ownsRow w.heap.size 3 1 (.slice A' n c') n ((srt l).map (Value.int .i64)) ∧ Below w.heap.size w W' := by
  refine (sorted_own w.heap.size A n c l (by omega) _ (by simp) (by rw [World.cell?_alloc_new]; rfl) (hr.below ((Below.refl _ _).alloc (Nat.le_refl _) _))).mono ?_
  rintro e w' ⟨A', c', rfl, ho, hb⟩
  refine ⟨A', c', rfl, ?_, ((Below.refl _ w).alloc (Nat.le_refl _) _).trans (hb.mono (by simp))⟩
  refine ⟨ho.1, ?_⟩
  rcases ho.2 with h | ⟨g, cap, cur, h1, h2, h3⟩
  · exact .inl h
  · exact .inr ⟨g, cap, cur, h1, by simp at h2; omega, h3⟩

set_option maxHeartbeats 1000000 in
theorem sort_ok (A : Option Addr) (n c : Nat) (l : List Int) (w : World) (hr : Row w A n l) (hm : n ≤ 64) (hb : Btw 0 16777216 l) :
    Calls Try.prog 78 #[.slice A n c] w fun e w' => ∃ A' c', e = .returned (.tuple #[.slice A' n c', .int .i64 0]) ∧ InRow w' A' n c' (srt l) ∧ w'.ownsRow w.heap.size 3 1 (.slice A' n c') n ((srt l).map (Value.int .i64)) ∧ Below w.heap.size w w' := by
  have HL := Lib.hid (list_ok A n c l w hr hm hb)
  have HV := Lib.hid (values_ok A n c w)
  have HS := Lib.hid (sorted_at A n c l w hm hr)
  clear hr hb hm
  go_enter Try.func78, Try.ntmps78
  go_wp2_with fail
  refine (HL.out).mono ?_
  rintro e w' ⟨rfl, rfl⟩
  go_wp2_with fail
  refine HV.out.mono ?_
  rintro e w1 ⟨rfl, rfl⟩
  go_wp2_with fail
  refine HS.out.mono ?_
  rintro e w2 ⟨A', c', rfl, ho, hb⟩
  have HO := Lib.hid ho
  clear ho
  go_wp2_with fail
  go_ret2
  exact ⟨A', c', rfl, own_inRow HO.out, HO.out, hb⟩

set_option maxRecDepth 100000 in
set_option maxHeartbeats 4000000 in
/-- Which place is told. -/
theorem rank_ok (A : Option Addr) (n c : Nat) (l : List Int) (p q x : Int) (K : Nat) (w : World) (hr : Row w A n l) (h0 : 0 < n) (hm : n ≤ 64) (hb : Btw 0 16777216 l) (hq : 1 ≤ q ∧ q ≤ 1000) (hp : 0 ≤ p ∧ p ≤ q)
    (hK : max 1 (((n : Int) * p + q - 1) / q) = (K : Int) + 1) (hKn : K < n) (hx : (srt l).getD K 0 = x) :
    Calls Try.prog 81 #[.slice A n c, .int .i64 p, .int .i64 q] w fun e w' => e = .returned (.tuple #[.int .i64 x, .int .i64 0]) ∧ Below w.heap.size w w' := by
  have HL := Lib.hid (list_ok A n c l w hr hm hb)
  have HV := Lib.hid (values_ok A n c w)
  have HS := Lib.hid (sorted_at A n c l w hm hr)
  obtain ⟨q1, q2⟩ := hq
  obtain ⟨p1, p2⟩ := hp
  have m1 : 0 ≤ (n : Int) * p := Int.mul_nonneg (by omega) p1
  have m2 : (n : Int) * p ≤ 64 * 1000 := Int.mul_le_mul (by omega) (by omega) p1 (by omega)
  obtain ⟨M, hM⟩ : ∃ M, (n : Int) * p = M := ⟨_, rfl⟩
  rw [hM] at m1 m2 hK
  have hMw : IntKind.i64.wrap ((n : Int) * p) = M := by rw [hM]; exact IntWalk.i64_in _ (by omega)
  obtain ⟨D, hD⟩ : ∃ D, (M + q - 1) / q = D := ⟨_, rfl⟩
  rw [hD] at hK
  have d1 : 0 ≤ D := by rw [← hD]; exact Int.ediv_nonneg (by omega) (by omega)
  have d2 : D ≤ 64 := by omega
  have hD2 : (M + q - 1).tdiv q = D := by rw [Int.tdiv_eq_ediv_of_nonneg (by omega)]; exact hD
  have a1 : ¬ q < 1 := by omega
  have a2 : ¬ 1000 < q := by omega
  have a3 : ¬ p < 0 := by omega
  have a4 : ¬ q < p := by omega
  have n1 : ((n : Int) == 0) = false := by simp; omega
  have HX := Lib.hid hx
  have kz : (0 : Int) ≤ K := by omega
  have kn : (K : Int) < n := by omega
  clear hr hb hx hm
  go_enter Try.func81, Try.ntmps81
  go_wp2_with fail
  refine (HL.out).mono ?_
  rintro e w' ⟨rfl, rfl⟩
  go_wp2_with fail
  refine HV.out.mono ?_
  rintro e w1 ⟨rfl, rfl⟩
  go_wp2_with fail
  refine HS.out.mono ?_
  rintro e w2 ⟨A', c', rfl, ho, hb⟩
  obtain ⟨b, off, rfl, lt, hcell⟩ := (Row.of_own ho).each K hKn
  rw [HX.out] at hcell
  clear ho
  go_wp2_with fail
  go_ret2
  exact ⟨rfl, hb⟩

set_option maxRecDepth 100000 in
set_option maxHeartbeats 4000000 in
theorem vlevel_ok (A : Option Addr) (n c : Nat) (l : List Int) (k x : Int) (K : Nat) (w : World) (hr : Row w A n l) (hm : n ≤ 64) (hb : Btw 0 127 l) (hk : 1 ≤ k) (hkn : k ≤ n)
    (hK : (n : Int) - k = K) (hx : (srt l).getD K 0 = x) :
    Calls Try.prog 84 #[.slice A n c, .int .i64 k] w fun e w' => e = .returned (.tuple #[.int .i64 x, .int .i64 0]) ∧ Below w.heap.size w w' := by
  have HL := Lib.hid (vlook_ok A n c l w hr hm hb)
  have HV := Lib.hid (values_ok A n c w)
  have HS := Lib.hid (sorted_at A n c l w hm hr)
  have a1 : ¬ k < 1 := by omega
  have a2 : ¬ 64 < k := by omega
  have a3 : ¬ (n : Int) < k := by omega
  have HX := Lib.hid hx
  have kz : (0 : Int) ≤ K := by omega
  have kn : (K : Int) < n := by omega
  have hKn : K < n := by omega
  clear hr hb hx
  go_enter Try.func84, Try.ntmps84
  go_wp2_with fail
  refine (HL.out).mono ?_
  rintro e w' ⟨rfl, rfl⟩
  go_wp2_with fail
  refine HV.out.mono ?_
  rintro e w1 ⟨rfl, rfl⟩
  go_wp2_with fail
  refine HS.out.mono ?_
  rintro e w2 ⟨A', c', rfl, ho, hb⟩
  obtain ⟨b, off, rfl, lt, hcell⟩ := (Row.of_own ho).each K hKn
  rw [HX.out] at hcell
  clear ho
  go_wp2_with fail
  go_ret2
  exact ⟨rfl, hb⟩
end Go.Proofs.Ytpomdnglknbanaa

import Derived.Test.YtpcgccmkmolkoaaFade
namespace Go.Proofs.Ytpcgccmkmolkoaa
open Go.RowKit

set_option maxHeartbeats 2000000 in
theorem fadeNearer_walk (a b n more s : Int) (w : World) (_ : (Lit.int .i64 a).wf = true) (_ : (Lit.int .i64 b).wf = true) (_ : (Lit.int .i64 n).wf = true) (_ : (Lit.int .i64 more).wf = true) (_ : (Lit.int .i64 s).wf = true) :
    Calls Try.prog 3 #[.int .i64 a, .int .i64 b, .int .i64 n, .int .i64 more, .int .i64 s] w fun e w' =>
      e = .returned (.bool true) ∧ Below w.heap.size w w' := by
  have b1 := within_bd a (n := 4294967297) (by omega)
  have b2 := within_bd b (n := 4294967297) (by omega)
  have b3 := within_bd n (n := 8388608) (by omega)
  have b4 := within_bd s (n := 9) (by omega)
  have b5 := within_bd more (n := 8388608) (by omega)
  obtain ⟨A, hA⟩ : ∃ x, within a 4294967297 = x := ⟨_, rfl⟩
  rw [hA] at b1
  have HA := Lib.hid hA
  clear hA
  obtain ⟨B, hB⟩ : ∃ x, within b 4294967297 = x := ⟨_, rfl⟩
  rw [hB] at b2
  have HB := Lib.hid hB
  clear hB
  obtain ⟨N, hN⟩ : ∃ x, within n 8388608 = x := ⟨_, rfl⟩
  rw [hN] at b3
  have HN := Lib.hid hN
  clear hN
  obtain ⟨S, hS⟩ : ∃ x, within s 9 = x := ⟨_, rfl⟩
  rw [hS] at b4
  have HS := Lib.hid hS
  clear hS
  obtain ⟨M, hM⟩ : ∃ x, within more 8388608 = x := ⟨_, rfl⟩
  rw [hM] at b5
  have HM := Lib.hid hM
  clear hM
  obtain ⟨s0, s1⟩ := b4
  have s2 : S ≤ 8 := by omega
  rcases Int.lt_trichotomy A B with h | h | h
  · have hn : ¬ B < A := by omega
    obtain ⟨m1, m2⟩ := fnext_mono (n := N) s0 s2 (show A ≤ B by omega)
    have m3 := fnext_up (a := A) (n := N) (m := N + M) s0 s2 (by omega)
    obtain ⟨x, hx⟩ : ∃ x, fnext A N S = x := ⟨_, rfl⟩
    rw [hx] at m1 m2 m3
    have Hx := Lib.hid hx
    clear hx
    obtain ⟨y, hy⟩ : ∃ x, fnext B N S = x := ⟨_, rfl⟩
    rw [hy] at m1 m2
    have Hy := Lib.hid hy
    clear hy
    obtain ⟨z, hz⟩ : ∃ x, fnext A (N + M) S = x := ⟨_, rfl⟩
    rw [hz] at m3
    have Hz := Lib.hid hz
    clear hz
    have t2 : ¬ (B - A < y - x) := by omega
    go_enter Try.func3, Try.ntmps3
    go_wp2_with fail
    refine (next_ok 0 1 8 1 (by omega) (by omega) (by omega) (by omega) (by omega) (by omega) (by decide) _).mono ?_
    rintro e w' ⟨rfl, rfl⟩
    go_wp2_with fail
    refine (within_any a 4294967297 A _ (by omega) (by omega) HA.out).mono ?_
    rintro e w' ⟨rfl, rfl⟩
    go_wp2_with fail
    refine (within_any b 4294967297 B _ (by omega) (by omega) HB.out).mono ?_
    rintro e w' ⟨rfl, rfl⟩
    go_wp2_with fail
    refine (within_any n 8388608 N _ (by omega) (by omega) HN.out).mono ?_
    rintro e w' ⟨rfl, rfl⟩
    go_wp2_with fail
    refine (within_any s 9 S _ (by omega) (by omega) HS.out).mono ?_
    rintro e w' ⟨rfl, rfl⟩
    go_wp2_with fail
    refine (next_ok A N S x (by omega) (by omega) (by omega) (by omega) (by omega) (by omega) Hx.out _).mono ?_
    rintro e w' ⟨rfl, rfl⟩
    go_wp2_with fail
    refine (next_ok B N S y (by omega) (by omega) (by omega) (by omega) (by omega) (by omega) Hy.out _).mono ?_
    rintro e w' ⟨rfl, rfl⟩
    go_wp2_with fail
    refine (within_any more 8388608 M _ (by omega) (by omega) HM.out).mono ?_
    rintro e w' ⟨rfl, rfl⟩
    go_wp2_with fail
    refine (next_ok A (N + M) S z (by omega) (by omega) (by omega) (by omega) (by omega) (by omega) Hz.out _).mono ?_
    rintro e w' ⟨rfl, rfl⟩
    go_wp2_with fail
    go_ret
    exact ⟨rfl, Below.refl _ _⟩
  · subst h
    have hn : ¬ A < A := by omega
    have m3 := fnext_up (a := A) (n := N) (m := N + M) s0 s2 (by omega)
    obtain ⟨x, hx⟩ : ∃ x, fnext A N S = x := ⟨_, rfl⟩
    rw [hx] at m3
    have Hx := Lib.hid hx
    clear hx
    obtain ⟨z, hz⟩ : ∃ x, fnext A (N + M) S = x := ⟨_, rfl⟩
    rw [hz] at m3
    have Hz := Lib.hid hz
    clear hz
    go_enter Try.func3, Try.ntmps3
    go_wp2_with fail
    refine (next_ok 0 1 8 1 (by omega) (by omega) (by omega) (by omega) (by omega) (by omega) (by decide) _).mono ?_
    rintro e w' ⟨rfl, rfl⟩
    go_wp2_with fail
    refine (within_any a 4294967297 A _ (by omega) (by omega) HA.out).mono ?_
    rintro e w' ⟨rfl, rfl⟩
    go_wp2_with fail
    refine (within_any b 4294967297 A _ (by omega) (by omega) HB.out).mono ?_
    rintro e w' ⟨rfl, rfl⟩
    go_wp2_with fail
    refine (within_any n 8388608 N _ (by omega) (by omega) HN.out).mono ?_
    rintro e w' ⟨rfl, rfl⟩
    go_wp2_with fail
    refine (within_any s 9 S _ (by omega) (by omega) HS.out).mono ?_
    rintro e w' ⟨rfl, rfl⟩
    go_wp2_with fail
    refine (next_ok A N S x (by omega) (by omega) (by omega) (by omega) (by omega) (by omega) Hx.out _).mono ?_
    rintro e w' ⟨rfl, rfl⟩
    go_wp2_with fail
    refine (next_ok A N S x (by omega) (by omega) (by omega) (by omega) (by omega) (by omega) Hx.out _).mono ?_
    rintro e w' ⟨rfl, rfl⟩
    go_wp2_with fail
    refine (within_any more 8388608 M _ (by omega) (by omega) HM.out).mono ?_
    rintro e w' ⟨rfl, rfl⟩
    go_wp2_with fail
    refine (next_ok A (N + M) S z (by omega) (by omega) (by omega) (by omega) (by omega) (by omega) Hz.out _).mono ?_
    rintro e w' ⟨rfl, rfl⟩
    go_wp2_with fail
    go_ret
    exact ⟨rfl, Below.refl _ _⟩
  · have hn : ¬ A < B := by omega
    obtain ⟨m1, m2⟩ := fnext_mono (n := N) s0 s2 (show B ≤ A by omega)
    have m3 := fnext_up (a := B) (n := N) (m := N + M) s0 s2 (by omega)
    obtain ⟨x, hx⟩ : ∃ x, fnext B N S = x := ⟨_, rfl⟩
    rw [hx] at m1 m2 m3
    have Hx := Lib.hid hx
    clear hx
    obtain ⟨y, hy⟩ : ∃ x, fnext A N S = x := ⟨_, rfl⟩
    rw [hy] at m1 m2
    have Hy := Lib.hid hy
    clear hy
    obtain ⟨z, hz⟩ : ∃ x, fnext B (N + M) S = x := ⟨_, rfl⟩
    rw [hz] at m3
    have Hz := Lib.hid hz
    clear hz
    have t2 : ¬ (A - B < y - x) := by omega
    go_enter Try.func3, Try.ntmps3
    go_wp2_with fail
    refine (next_ok 0 1 8 1 (by omega) (by omega) (by omega) (by omega) (by omega) (by omega) (by decide) _).mono ?_
    rintro e w' ⟨rfl, rfl⟩
    go_wp2_with fail
    refine (within_any a 4294967297 A _ (by omega) (by omega) HA.out).mono ?_
    rintro e w' ⟨rfl, rfl⟩
    go_wp2_with fail
    refine (within_any b 4294967297 B _ (by omega) (by omega) HB.out).mono ?_
    rintro e w' ⟨rfl, rfl⟩
    go_wp2_with fail
    refine (within_any n 8388608 N _ (by omega) (by omega) HN.out).mono ?_
    rintro e w' ⟨rfl, rfl⟩
    go_wp2_with fail
    refine (within_any s 9 S _ (by omega) (by omega) HS.out).mono ?_
    rintro e w' ⟨rfl, rfl⟩
    go_wp2_with fail
    refine (next_ok B N S x (by omega) (by omega) (by omega) (by omega) (by omega) (by omega) Hx.out _).mono ?_
    rintro e w' ⟨rfl, rfl⟩
    go_wp2_with fail
    refine (next_ok A N S y (by omega) (by omega) (by omega) (by omega) (by omega) (by omega) Hy.out _).mono ?_
    rintro e w' ⟨rfl, rfl⟩
    go_wp2_with fail
    refine (within_any more 8388608 M _ (by omega) (by omega) HM.out).mono ?_
    rintro e w' ⟨rfl, rfl⟩
    go_wp2_with fail
    refine (next_ok B (N + M) S z (by omega) (by omega) (by omega) (by omega) (by omega) (by omega) Hz.out _).mono ?_
    rintro e w' ⟨rfl, rfl⟩
    go_wp2_with fail
    go_ret
    exact ⟨rfl, Below.refl _ _⟩
end Go.Proofs.Ytpcgccmkmolkoaa

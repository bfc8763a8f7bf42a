/-
  The walks of slices.Min and slices.Max.
-/
import Derived.Test.YtlnagfmaiabhaaaLs
set_option linter.unusedSimpArgs false
set_option linter.unusedVariables false
namespace Go.Proofs.Ytlnagfmaiabhaaa
open Go.RowKit

/-- m is the least of l. -/
def IsMin (l : List Int) (m : Int) : Prop := m ∈ l ∧ ∀ x ∈ l, m ≤ x
def IsMax (l : List Int) (m : Int) : Prop := m ∈ l ∧ ∀ x ∈ l, x ≤ m
theorem IsMin.one (x : Int) : IsMin [x] x := ⟨by simp, by simp⟩
theorem IsMax.one (x : Int) : IsMax [x] x := ⟨by simp, by simp⟩
theorem IsMin.snoc {l : List Int} {m x : Int} (h : IsMin l m) : IsMin (l ++ [x]) (if x < m then x else m) := by
  obtain ⟨h1, h2⟩ := h
  split
  · refine ⟨by simp, fun y hy => ?_⟩
    rcases List.mem_append.1 hy with hy | hy
    · have := h2 y hy; omega
    · have : y = x := by simpa using hy
      omega
  · refine ⟨by simp [h1], fun y hy => ?_⟩
    rcases List.mem_append.1 hy with hy | hy
    · exact h2 y hy
    · have : y = x := by simpa using hy
      omega
theorem IsMax.snoc {l : List Int} {m x : Int} (h : IsMax l m) : IsMax (l ++ [x]) (if m < x then x else m) := by
  obtain ⟨h1, h2⟩ := h
  split
  · refine ⟨by simp, fun y hy => ?_⟩
    rcases List.mem_append.1 hy with hy | hy
    · have := h2 y hy; omega
    · have : y = x := by simpa using hy
      omega
  · refine ⟨by simp [h1], fun y hy => ?_⟩
    rcases List.mem_append.1 hy with hy | hy
    · exact h2 y hy
    · have : y = x := by simpa using hy
      omega
theorem IsMin.same {l : List Int} {m k : Int} (h : IsMin l m) (h' : IsMin l k) : m = k := by have := h.2 k h'.1; have := h'.2 m h.1; omega
theorem IsMax.same {l : List Int} {m k : Int} (h : IsMax l m) (h' : IsMax l k) : m = k := by have := h.2 k h'.1; have := h'.2 m h.1; omega
theorem IsMin.ex {l : List Int} (h : 0 < l.length) : ∃ m, IsMin l m := by
  induction l with
  | nil => simp at h
  | cons x l ih =>
    rcases Nat.eq_zero_or_pos l.length with h0 | h0
    · have : l = [] := List.eq_nil_of_length_eq_zero h0
      subst this; exact ⟨x, IsMin.one x⟩
    · obtain ⟨m, h1, h2⟩ := ih h0
      by_cases c : x < m
      · exact ⟨x, by simp, fun y hy => by rcases List.mem_cons.1 hy with rfl | hy; omega; have := h2 y hy; omega⟩
      · exact ⟨m, by simp [h1], fun y hy => by rcases List.mem_cons.1 hy with rfl | hy; omega; exact h2 y hy⟩
theorem IsMax.ex {l : List Int} (h : 0 < l.length) : ∃ m, IsMax l m := by
  induction l with
  | nil => simp at h
  | cons x l ih =>
    rcases Nat.eq_zero_or_pos l.length with h0 | h0
    · have : l = [] := List.eq_nil_of_length_eq_zero h0
      subst this; exact ⟨x, IsMax.one x⟩
    · obtain ⟨m, h1, h2⟩ := ih h0
      by_cases c : m < x
      · exact ⟨x, by simp, fun y hy => by rcases List.mem_cons.1 hy with rfl | hy; omega; have := h2 y hy; omega⟩
      · exact ⟨m, by simp [h1], fun y hy => by rcases List.mem_cons.1 hy with rfl | hy; omega; exact h2 y hy⟩
theorem take_one {l : List Int} (h : 0 < l.length) : l.take 1 = [l.getD 0 0] := by
  have := take_snoc l h
  simpa using this

set_option maxHeartbeats 1000000 in
theorem min_ok (A : Option Addr) (n c : Nat) (l : List Int) (m : Int) (w : World) (hr : Row w A n l) (h0 : 0 < n) (hn : n ≤ 9223372036854775807) (hm : IsMin l m) :
    Calls Try.prog 25 #[.slice A n c] w fun e w' => e = .returned (.int .i64 m) ∧ w = w' := by
  have HB := Lib.hid hr.each
  have HL := Lib.hid hr.len
  have HM := Lib.hid hm
  clear hr hm
  have h1 : ¬ (n : Int) < 1 := by omega
  obtain ⟨bka, offa, hAa, lta, hra⟩ := HB.out 0 h0
  subst hAa
  obtain ⟨a, hva, hxa⟩ := name_num hra
  have HA := Lib.hid hva
  clear hva hra
  rw [Nat.add_zero] at hxa
  go_enter Try.func25, Try.ntmps25
  go_wp2_with fail
  go_loop [3, 4] (fun v i => ∃ (k : Nat) (y : Int), 1 ≤ k ∧ k ≤ n ∧ i = .int .i64 k ∧ v = .int .i64 y ∧ IsMin (l.take k) y) (fun _ i => n - (intOf i).toNat)
  case atStart => exact ⟨1, a, Nat.le_refl _, h0, rfl, rfl, by rw [take_one (by have := HL.out; omega), ← HA.out]; exact IsMin.one a⟩
  case round =>
    obtain ⟨k, y, hk1, hk, rfl, rfl, hy⟩ := hrel
    have HY := Lib.hid hy
    clear hy
    by_cases hlt : k < n
    · obtain ⟨_, _, hA2, _, hr2⟩ := HB.out k hlt
      injection hA2 with hA2
      injection hA2 with hA3 hA4
      subst hA3 hA4
      obtain ⟨x, hvx, hxx⟩ := name_num hr2
      have HX := Lib.hid hvx
      clear hr2 hvx
      have hs := take_snoc l (k := k) (by have := HL.out; omega)
      rw [← HX.out] at hs
      have h2 := HY.out.snoc (x := x)
      rw [← hs] at h2
      clear hs
      by_cases hc : x < y
      · rw [if_pos hc] at h2
        have H2 := Lib.hid h2
        clear h2
        go_wp2_with fail
        go_round
        case rel => exact ⟨k + 1, x, by omega, by omega, by go_num, rfl, H2.out⟩
        case measure => simp [intOf]; omega
      · rw [if_neg hc] at h2
        have H2 := Lib.hid h2
        clear h2
        go_wp2_with fail
        go_round
        case rel => exact ⟨k + 1, y, by omega, by omega, by go_num, rfl, H2.out⟩
        case measure => simp [intOf]; omega
    · obtain rfl : k = n := by omega
      have e := HY.out
      rw [List.take_of_length_le (by have := HL.out; omega)] at e
      obtain rfl := e.same HM.out
      clear e
      go_wp2_with fail
      go_ret
      exact ⟨rfl, rfl⟩
set_option maxHeartbeats 1000000 in
theorem max_ok (A : Option Addr) (n c : Nat) (l : List Int) (m : Int) (w : World) (hr : Row w A n l) (h0 : 0 < n) (hn : n ≤ 9223372036854775807) (hm : IsMax l m) :
    Calls Try.prog 24 #[.slice A n c] w fun e w' => e = .returned (.int .i64 m) ∧ w = w' := by
  have HB := Lib.hid hr.each
  have HL := Lib.hid hr.len
  have HM := Lib.hid hm
  clear hr hm
  have h1 : ¬ (n : Int) < 1 := by omega
  obtain ⟨bka, offa, hAa, lta, hra⟩ := HB.out 0 h0
  subst hAa
  obtain ⟨a, hva, hxa⟩ := name_num hra
  have HA := Lib.hid hva
  clear hva hra
  rw [Nat.add_zero] at hxa
  go_enter Try.func24, Try.ntmps24
  go_wp2_with fail
  go_loop [3, 4] (fun v i => ∃ (k : Nat) (y : Int), 1 ≤ k ∧ k ≤ n ∧ i = .int .i64 k ∧ v = .int .i64 y ∧ IsMax (l.take k) y) (fun _ i => n - (intOf i).toNat)
  case atStart => exact ⟨1, a, Nat.le_refl _, h0, rfl, rfl, by rw [take_one (by have := HL.out; omega), ← HA.out]; exact IsMax.one a⟩
  case round =>
    obtain ⟨k, y, hk1, hk, rfl, rfl, hy⟩ := hrel
    have HY := Lib.hid hy
    clear hy
    by_cases hlt : k < n
    · obtain ⟨_, _, hA2, _, hr2⟩ := HB.out k hlt
      injection hA2 with hA2
      injection hA2 with hA3 hA4
      subst hA3 hA4
      obtain ⟨x, hvx, hxx⟩ := name_num hr2
      have HX := Lib.hid hvx
      clear hr2 hvx
      have hs := take_snoc l (k := k) (by have := HL.out; omega)
      rw [← HX.out] at hs
      have h2 := HY.out.snoc (x := x)
      rw [← hs] at h2
      clear hs
      by_cases hc : y < x
      · rw [if_pos hc] at h2
        have H2 := Lib.hid h2
        clear h2
        go_wp2_with fail
        go_round
        case rel => exact ⟨k + 1, x, by omega, by omega, by go_num, rfl, H2.out⟩
        case measure => simp [intOf]; omega
      · rw [if_neg hc] at h2
        have H2 := Lib.hid h2
        clear h2
        go_wp2_with fail
        go_round
        case rel => exact ⟨k + 1, y, by omega, by omega, by go_num, rfl, H2.out⟩
        case measure => simp [intOf]; omega
    · obtain rfl : k = n := by omega
      have e := HY.out
      rw [List.take_of_length_le (by have := HL.out; omega)] at e
      obtain rfl := e.same HM.out
      clear e
      go_wp2_with fail
      go_ret
      exact ⟨rfl, rfl⟩
end Go.Proofs.Ytlnagfmaiabhaaa

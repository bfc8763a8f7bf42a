
/-
  The walks of slices.Min and slices.Max.
-/
import Derived.Test.YtpomdnglknbanaaGreatLs
set_option linter.unusedSimpArgs false
set_option linter.unusedVariables false
namespace Go.Proofs.YtpomdnglknbanaaGreat
open Go.RowKit

/-- m is the least of l. -/
def IsMin (l : List Int) (m : Int) : Prop := m ∈ l ∧ ∀ x ∈ l, m ≤ x
def IsMax (l : List Int) (m : Int) : Prop := m ∈ l ∧ ∀ x ∈ l, x ≤ m
theorem IsMin.one (x : Int) : IsMin [x] x := ⟨by simp, by simp⟩
theorem IsMax.one (x : Int) : IsMax [x] x := ⟨by simp, by simp⟩
theorem IsMin.snoc {l : List Int} {m x : Int} (h : IsMin l m) : IsMin (l ++ [x]) (if x < m then x else m) := by
  obtain ⟨h1, h2⟩ := h
  split
  · refine ⟨by simp, fun y hy => ?_⟩
    rcases List.mem_append.1 hy with hy | hy
    · have := h2 y hy; omega
    · have : y = x := by simpa using hy
      omega
  · refine ⟨by simp [h1], fun y hy => ?_⟩
    rcases List.mem_append.1 hy with hy | hy
    · exact h2 y hy
    · have : y = x := by simpa using hy
      omega
theorem IsMax.snoc {l : List Int} {m x : Int} (h : IsMax l m) : IsMax (l ++ [x]) (if m < x then x else m) := by
  obtain ⟨h1, h2⟩ := h
  split
  · refine ⟨by simp, fun y hy => ?_⟩
    rcases List.mem_append.1 hy with hy | hy
    · have := h2 y hy; omega
    · have : y = x := by simpa using hy
      omega
  · refine ⟨by simp [h1], fun y hy => ?_⟩
    rcases List.mem_append.1 hy with hy | hy
    · exact h2 y hy
    · have : y = x := by simpa using hy
      omega
theorem IsMin.same {l : List Int} {m k : Int} (h : IsMin l m) (h' : IsMin l k) : m = k := by have := h.2 k h'.1; have := h'.2 m h.1; omega
theorem IsMax.same {l : List Int} {m k : Int} (h : IsMax l m) (h' : IsMax l k) : m = k := by have := h.2 k h'.1; have := h'.2 m h.1; omega
theorem IsMin.ex {l : List Int} (h : 0 < l.length) : ∃ m, IsMin l m := by
  induction l with
  | nil => simp at h
  | cons x l ih =>
    rcases Nat.eq_zero_or_pos l.length with h0 | h0
    · have : l = [] := List.eq_nil_of_length_eq_zero h0
      subst this; exact ⟨x, IsMin.one x⟩
    · obtain ⟨m, h1, h2⟩ := ih h0
      by_cases c : x < m
      · exact ⟨x, by simp, fun y hy => by rcases List.mem_cons.1 hy with rfl | hy; omega; have := h2 y hy; omega⟩
      · exact ⟨m, by simp [h1], fun y hy => by rcases List.mem_cons.1 hy with rfl | hy; omega; exact h2 y hy⟩
theorem IsMax.ex {l : List Int} (h : 0 < l.length) : ∃ m, IsMax l m := by
  induction l with
  | nil => simp at h
  | cons x l ih =>
    rcases Nat.eq_zero_or_pos l.length with h0 | h0
    · have : l = [] := List.eq_nil_of_length_eq_zero h0
      subst this; exact ⟨x, IsMax.one x⟩
    · obtain ⟨m, h1, h2⟩ := ih h0
      by_cases c : m < x
      · exact ⟨x, by simp, fun y hy => by rcases List.mem_cons.1 hy with rfl | hy; omega; have := h2 y hy; omega⟩
      · exact ⟨m, by simp [h1], fun y hy => by rcases List.mem_cons.1 hy with rfl | hy; omega; exact h2 y hy⟩
theorem take_one {l : List Int} (h : 0 < l.length) : l.take 1 = [l.getD 0 0] := by
  have := take_snoc l h
  simpa using this

end Go.Proofs.YtpomdnglknbanaaGreat

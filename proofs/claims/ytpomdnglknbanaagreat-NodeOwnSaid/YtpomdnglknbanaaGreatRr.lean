/-
  Slices of slices of integers that came in.
-/
import Derived.Test.YtpomdnglknbanaaGreatLs
import Derived.Deep.Matrix
set_option linter.unusedSimpArgs false
set_option linter.unusedVariables false
namespace Go.Proofs.YtpomdnglknbanaaGreat
open Go Go.RowKit Go.Deep

/-- The slice's first n cells hold slices that read as Z. -/
def IsRows (w : World) (a : Option Addr) (n : Nat) (Z : List (List Int)) : Prop :=
  Z.length = n ∧ ∀ k, k < n → ∃ b off A C, a = some ⟨b, off, none⟩ ∧ b < w.heap.size ∧ w.cell? ⟨b, off + k, none⟩ = some (.slice A (Z.getD k []).length C) ∧ InRow w A (Z.getD k []).length C (Z.getD k [])
theorem IsRows.take {w : World} {a : Option Addr} {n m : Nat} {Z : List (List Int)} (h : IsRows w a n Z) (hm : m ≤ n) : IsRows w a m (Z.take m) := by
  refine ⟨by rw [List.length_take, h.1]; omega, fun k hk => ?_⟩
  have : (Z.take m).getD k [] = Z.getD k [] := by simp [List.getD, List.getElem?_take, hk]
  rw [this]
  exact h.2 k (by omega)
theorem cell_plain {w : World} {a : Addr} {v : Value} (h : w.cell? (a.add 0) = some v) : ∃ b off, a = ⟨b, off, none⟩ := by
  obtain ⟨b, off, spot⟩ := a
  have hspot : spot = none := by simpa [Addr.add] using World.cell?_spot h
  subst hspot
  exact ⟨b, off, rfl⟩
theorem rows_of {w : World} {a : Addr} {base len cap : Nat} {A : Nat → Option Addr} {L C : Nat → Nat} {Z : Nat → List Int} (hl : len ≤ cap)
    (h : ∀ r, r < cap → w.cell? (a.add r) = some (.slice (A r) (L r) (C r)) ∧ L r ≤ C r ∧ C r ≤ maxLen ∧ (Z r).length = C r ∧ (∀ n ∈ Z r, (Lit.int .i64 n).wf = true) ∧ (A r = none → C r = 0) ∧
      ∀ a', A r = some a' → base ≤ a'.block ∧ ∀ c, c < C r → w.cell? (a'.add c) = some (.int .i64 ((Z r).getD c 0))) :
    IsRows w (some a) len ((List.range len).map fun r => (Z r).take (L r)) := by
  refine ⟨by simp, fun k hk => ?_⟩
  obtain ⟨h1, h2, h3, h4, _, h5, h6⟩ := h k (by omega)
  obtain ⟨b, off, rfl⟩ := cell_plain (h 0 (by omega)).1
  rw [Go.WideShapes.add_plain] at h1
  have e : ((List.range len).map fun r => (Z r).take (L r)).getD k [] = (Z k).take (L k) := by simp [List.getD, hk]
  have el : ((Z k).take (L k)).length = L k := by rw [List.length_take]; omega
  rw [e, el]
  refine ⟨b, off, A k, C k, rfl, World.block_lt_of_cell? w _ h1, h1, ?_⟩
  refine inRow_of ?_
  cases hA : A k with
  | none =>
    have := h5 hA
    exact .inl ⟨rfl, by omega, this, List.eq_nil_of_length_eq_zero (by omega)⟩
  | some a' => exact .inr ⟨a', rfl, h2, h3, h4, fun c hc => (h6 a' hA).2 c (by omega)⟩
end Go.Proofs.YtpomdnglknbanaaGreat

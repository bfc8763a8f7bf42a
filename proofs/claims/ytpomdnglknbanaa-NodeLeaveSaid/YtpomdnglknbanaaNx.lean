/-
  Plain facts for slices.DeleteFunc at subs: the row while the loop runs.
-/
import Derived.Test.YtpomdnglknbanaaNl
set_option linter.unusedSimpArgs false
set_option linter.unusedVariables false
namespace Go.Proofs.Ytpomdnglknbanaa
open Go Go.RowKit
theorem subsC_splice (M : List Sub) (i : Nat) (hi : i < M.length) (u : Sub) : splice (subsC M) (i * 3) (subC u) = subsC (M.set i u) := by
  have l1 : (subsC (M.take i)).length = i * 3 := by rw [subsC_len, List.length_take, Nat.min_eq_left (by omega)]
  have l2 : (subsC (M.take (i + 1))).length = i * 3 + 3 := by rw [subsC_len, List.length_take, Nat.min_eq_left (by omega)]; omega
  have h1 : (subsC M).take (i * 3) = subsC (M.take i) := by
    conv => lhs; rw [← List.take_append_drop i M, subsC_app, ← l1, List.take_left]
  have h2 : (subsC M).drop (i * 3 + 3) = subsC (M.drop (i + 1)) := by
    conv => lhs; rw [← List.take_append_drop (i + 1) M, subsC_app, ← l2, List.drop_left]
  have hs : M.set i u = M.take i ++ u :: M.drop (i + 1) := by rw [List.set_eq_take_append_cons_drop, if_pos hi]
  have hu : (subC u).length = 3 := rfl
  unfold splice
  rw [hu, h1, h2, hs, subsC_app]
  simp [subsC]
/-- The row after j of the loop's rounds: what is kept stands in front, what is to come is as it was. -/
structure Mid (p : Sub → Bool) (L M : List Sub) (i j : Nat) : Prop where
  len : M.length = L.length
  front : M.take i = (L.take j).filter p
  rest : M.drop j = L.drop j
  le : i ≤ j
theorem Mid.get {p : Sub → Bool} {L M : List Sub} {i j : Nat} (h : Mid p L M i j) (hj : j < L.length) : M.getD j default = L.getD j default := by
  have := congrArg (fun l => l.getD 0 default) h.rest
  simpa [List.getD_eq_getElem?_getD, List.getElem?_drop] using this
theorem takeF_snoc (p : Sub → Bool) (L : List Sub) (j : Nat) (hj : j < L.length) : (L.take (j + 1)).filter p = (L.take j).filter p ++ if p (L.getD j default) then [L.getD j default] else [] := by
  have g : L.getD j default = L[j] := by rw [List.getD_eq_getElem?_getD, List.getElem?_eq_getElem hj]; rfl
  rw [List.take_succ_eq_append_getElem hj, List.filter_append, g]
  congr 1
  cases h : p L[j] <;> simp [h]
theorem Mid.skip {p : Sub → Bool} {L M : List Sub} {i j : Nat} (h : Mid p L M i j) (hj : j < L.length) (hp : p (L.getD j default) = false) : Mid p L M i (j + 1) := by
  refine ⟨h.len, ?_, ?_, by have := h.le; omega⟩
  · rw [takeF_snoc p L j hj, hp, h.front]; simp
  · rw [← List.drop_drop, ← List.drop_drop, h.rest]
theorem Mid.keep {p : Sub → Bool} {L M : List Sub} {i j : Nat} (h : Mid p L M i j) (hj : j < L.length) (hp : p (L.getD j default) = true) : Mid p L (M.set i (L.getD j default)) (i + 1) (j + 1) := by
  have hl := h.len
  have hle := h.le
  have hi : i < M.length := by omega
  refine ⟨by rw [List.length_set]; exact h.len, ?_, ?_, by omega⟩
  · rw [takeF_snoc p L j hj, hp, ← h.front, List.set_eq_take_append_cons_drop, if_pos hi, List.take_append, List.length_take, Nat.min_eq_left (by omega), List.take_of_length_le (by rw [List.length_take]; omega), show i + 1 - i = 1 by omega]
    simp
  · rw [List.drop_set_of_lt (by omega), ← List.drop_drop, ← List.drop_drop, h.rest]
theorem Mid.end {p : Sub → Bool} {L M : List Sub} {i : Nat} (h : Mid p L M i L.length) : M.take i = L.filter p ∧ i = (L.filter p).length := by
  have h1 := h.front
  rw [List.take_length] at h1
  refine ⟨h1, ?_⟩
  rw [← h1, List.length_take, Nat.min_eq_left (by rw [h.len]; exact h.le)]
theorem Mid.start {p : Sub → Bool} {L : List Sub} {i : Nat} (hi : i < L.length) (hn : ∀ j, j < i → p (L.getD j default) = true) (hh : p (L.getD i default) = false) : Mid p L L i (i + 1) := by
  refine ⟨rfl, ?_, rfl, by omega⟩
  rw [takeF_snoc p L i hi, hh]
  simp only [Bool.false_eq_true, if_false, List.append_nil]
  refine (List.filter_eq_self.2 fun u hu => ?_).symm
  obtain ⟨j, hj, rfl⟩ := List.getElem_of_mem hu
  rw [List.length_take] at hj
  have := hn j (by omega)
  rw [List.getD_eq_getElem?_getD, List.getElem?_eq_getElem (by omega)] at this
  simpa using this
end Go.Proofs.Ytpomdnglknbanaa

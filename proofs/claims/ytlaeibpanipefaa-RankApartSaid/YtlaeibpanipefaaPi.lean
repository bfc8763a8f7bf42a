/-
  Sorted lists: to put in, to take out.
-/
import Derived.Test.YtlaeibpanipefaaPc
import Derived.Test.YtlaeibpanipefaaRp
set_option linter.unusedSimpArgs false
set_option linter.unusedVariables false
namespace Go.Proofs.Ytlaeibpanipefaa
theorem ins_perm (i : Nat) (x : Int) (l : List Int) : (ins i x l).Perm (x :: l) := by
  unfold ins
  refine List.perm_middle.trans ?_
  rw [List.take_append_drop]
theorem ins_sorted (x : Int) : ∀ l : List Int, l.Pairwise (· ≤ ·) → (ins (l.countP (· < x)) x l).Pairwise (· ≤ ·) := by
  intro l
  induction l with
  | nil => intro _; simp [ins]
  | cons y l ih =>
    intro h
    obtain ⟨h1, h2⟩ := List.pairwise_cons.1 h
    by_cases c : y < x
    · rw [List.countP_cons_of_pos (by simpa using c)]
      show (y :: ins (l.countP (· < x)) x l).Pairwise (· ≤ ·)
      refine List.pairwise_cons.2 ⟨fun z hz => ?_, ih h2⟩
      rcases List.mem_cons.1 ((ins_perm _ _ _).mem_iff.1 hz) with rfl | hz
      · omega
      · exact h1 z hz
    · have h0 : (y :: l).countP (· < x) = 0 := by
        rw [List.countP_eq_zero]
        intro z hz
        rcases List.mem_cons.1 hz with rfl | hz
        · simpa using c
        · have := h1 z hz
          simp; omega
      rw [h0]
      show (x :: y :: l).Pairwise (· ≤ ·)
      refine List.pairwise_cons.2 ⟨fun z hz => ?_, h⟩
      rcases List.mem_cons.1 hz with rfl | hz
      · omega
      · have := h1 z hz; omega
theorem ins_srt (x : Int) (L : List Int) : ins ((srt L).countP (· < x)) x (srt L) = srt (x :: L) :=
  (srt_eq (ins_sorted x _ (srt_sorted L)) ((ins_perm _ _ _).trans ((srt_perm L).cons x))).symm
theorem del_ins (i : Nat) (x : Int) (l : List Int) (hi : i ≤ l.length) : del i (ins i x l) = l := by
  unfold del ins
  have hti : (l.take i).length = i := by rw [List.length_take]; omega
  rw [List.take_append_of_le_length (by omega), List.take_of_length_le (by omega), List.drop_append, List.drop_of_length_le (by omega), hti]
  simp
theorem ins_count (i : Nat) (x : Int) (l : List Int) : (ins i x l).countP (· < x) = l.countP (· < x) := by
  rw [(ins_perm i x l).countP_eq, List.countP_cons_of_neg (by simp)]
end Go.Proofs.Ytlaeibpanipefaa

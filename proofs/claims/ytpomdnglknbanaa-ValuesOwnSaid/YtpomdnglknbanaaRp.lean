/-
  Order statistics: plain.
-/
import Derived.Test.YtpomdnglknbanaaSo
import Derived.Test.YtpomdnglknbanaaTl
set_option linter.unusedSimpArgs false
set_option linter.unusedVariables false
namespace Go.Proofs.Ytpomdnglknbanaa

theorem cnt_perm {a b : List Int} (h : a.Perm b) (t : Int) : cnt t a = cnt t b := by
  induction h with
  | nil => rfl
  | cons x _ ih => simp only [cnt, ih]
  | swap x y l => simp only [cnt]; omega
  | trans _ _ h1 h2 => rw [h1, h2]
theorem cnt_mono {t u : Int} (h : t ≤ u) (l : List Int) : cnt u l ≤ cnt t l := by
  induction l with
  | nil => simp [cnt]
  | cons x l ih => simp only [cnt]; split <;> split <;> omega
theorem srt_cnt (t : Int) (l : List Int) : cnt t (srt l) = cnt t l := cnt_perm (srt_perm l) t
theorem sorted_cnt (t : Int) : ∀ (s : List Int) (K : Nat), s.Pairwise (· ≤ ·) → K < s.length → (t ≤ s.getD K 0 ↔ (s.length : Int) - K ≤ cnt t s) := by
  intro s
  induction s with
  | nil => intro K _ h; simp at h
  | cons a s ih =>
    intro K hs hK
    obtain ⟨h1, h2⟩ := List.pairwise_cons.1 hs
    have bd := cnt_bd t s
    cases K with
    | zero =>
      simp only [cnt, List.getD_cons_zero, List.length_cons]
      constructor
      · intro h
        have : cnt t s = s.length := by
          clear ih bd hs h2 hK
          induction s with
          | nil => rfl
          | cons b s ihs =>
            have := h1 b (by simp)
            have := ihs (fun x hx => h1 x (by simp [hx]))
            simp only [cnt, List.length_cons]
            rw [if_pos (by omega)]; omega
        rw [if_pos h]; omega
      · intro h
        split at h
        · assumption
        · omega
    | succ K =>
      have hK' : K < s.length := by simpa using hK
      have ih' := ih K h2 hK'
      have hx : a ≤ s.getD K 0 := h1 _ (by rw [List.getD_eq_getElem?_getD, List.getElem?_eq_getElem hK']; exact List.getElem_mem hK')
      simp only [cnt, List.getD_cons_succ, List.length_cons]
      constructor
      · intro h; have := ih'.1 h; split <;> omega
      · intro h
        split at h
        · omega
        · exact ih'.2 (by omega)
/-- The K-th, told by counting. -/
theorem kth_iff (l : List Int) (K : Nat) (hK : K < l.length) (t : Int) : t ≤ (srt l).getD K 0 ↔ (l.length : Int) - K ≤ cnt t l := by
  have := sorted_cnt t (srt l) K (srt_sorted l) (by rw [srt_len]; exact hK)
  rwa [srt_cnt, srt_len] at this
theorem kth_mem (l : List Int) (K : Nat) (hK : K < l.length) : (srt l).getD K 0 ∈ l := by
  have hK' : K < (srt l).length := by rw [srt_len]; exact hK
  refine (srt_perm l).mem_iff.1 ?_
  rw [List.getD_eq_getElem?_getD, List.getElem?_eq_getElem hK']
  exact List.getElem_mem hK'
theorem le_of_all {x y : Int} (h : ∀ t : Int, t ≤ x → t ≤ y) : x ≤ y := h x (Int.le_refl _)
theorem srt_eq {l s : List Int} (h : s.Pairwise (· ≤ ·)) (hp : s.Perm l) : srt l = s :=
  List.Perm.eq_of_pairwise (le := fun a b : Int => a ≤ b) (fun a b _ _ h1 h2 => Int.le_antisymm h1 h2) (srt_sorted l) h ((srt_perm l).trans hp.symm)
theorem srt_591 : srt [5, 9, 1] = [1, 5, 9] := srt_eq (by decide) (by decide)
theorem srt_same {a b : List Int} (h : a.Perm b) : srt a = srt b := srt_eq (srt_sorted b) ((srt_perm b).trans h.symm)
end Go.Proofs.Ytpomdnglknbanaa


import Derived.Test.YtlnagfmaiabhaaaLrankmedian
import Derived.Test.YtlnagfmaiabhaaaSt
import Derived.Test.YtlnagfmaiabhaaaEq
set_option linter.unusedSimpArgs false
set_option linter.unusedVariables false
namespace Go.Proofs.Ytlnagfmaiabhaaa
open Go.RowKit
theorem far_sum (c : Int) (l : List Int) : sumI l - l.length * c ≤ far c l ∧ -(far c l) ≤ sumI l - l.length * c := by
  induction l with
  | nil => simp [sumI, far]
  | cons x l ih =>
    have e : ((l.length : Int) + 1) * c = l.length * c + c := by rw [Int.add_mul, Int.one_mul]
    simp only [sumI, far, List.length_cons]
    rw [show ((l.length + 1 : Nat) : Int) = (l.length : Int) + 1 by omega, e]
    have : x - c ≤ dist x c ∧ -(dist x c) ≤ x - c := by unfold dist; split <;> omega
    omega
theorem far_list (c : Int) (l : List Int) : sumI (l.map fun x => dist x c) = far c l ∧ sqI (l.map fun x => dist x c) = dsq c l := by
  induction l with
  | nil => simp [sumI, sqI, far, dsq]
  | cons x l ih =>
    have : dist x c * dist x c = (x - c) * (x - c) := by
      unfold dist
      split
      · rw [show c - x = -(x - c) by omega, Int.neg_mul_neg]
      · rfl
    simp only [List.map_cons, sumI, sqI, far, dsq, ih.1, ih.2, this]
    simp
theorem far_cs (c : Int) (l : List Int) : far c l * far c l ≤ l.length * dsq c l := by
  have h := spr_nonneg (l.map fun x => dist x c)
  unfold spr at h
  rw [(far_list c l).1, (far_list c l).2, List.length_map] at h
  omega
theorem sumI_scale (n : Int) (l : List Int) : sumI (l.map (n * ·)) = n * sumI l ∧ sqI (l.map (n * ·)) = n * n * sqI l := by
  induction l with
  | nil => simp [sumI, sqI]
  | cons x l ih =>
    simp only [List.map_cons, sumI, sqI, ih.1, ih.2, Int.mul_add]
    refine ⟨trivial, ?_⟩
    rw [show n * x * (n * x) = n * n * (x * x) by rw [Int.mul_assoc, Int.mul_left_comm x n x, ← Int.mul_assoc n n]]
theorem cnt_scale {n : Int} (hn : 0 < n) (t : Int) (l : List Int) : cnt (n * t) (l.map (n * ·)) = cnt t l ∧ cnt (n * t + 1) (l.map (n * ·)) = cnt (t + 1) l := by
  induction l with
  | nil => simp [cnt]
  | cons x l ih =>
    have a : n * t ≤ n * x ↔ t ≤ x := ⟨fun h => Int.le_of_mul_le_mul_left h hn, fun h => Int.mul_le_mul_of_nonneg_left h (by omega)⟩
    have b : n * t + 1 ≤ n * x ↔ t + 1 ≤ x := by
      constructor
      · intro h
        rcases Int.lt_or_le x (t + 1) with q | q
        · have := Int.mul_le_mul_of_nonneg_left (show x ≤ t by omega) (show 0 ≤ n by omega)
          omega
        · exact q
      · intro h
        have := Int.mul_le_mul_of_nonneg_left h (show 0 ≤ n by omega)
        rw [Int.mul_add, Int.mul_one] at this
        omega
    simp only [List.map_cons, cnt, ih.1, ih.2, a, b]
    exact ⟨trivial, trivial⟩
theorem near_sq (l : List Int) (m : Int) (n : Nat) (S Q : Int) (hn : l.length = n) (h0 : 0 < n) (hS : sumI l = S) (hQ : sqI l = Q) (h1 : 2 * cnt (m + 1) l ≤ l.length) (h2 : (l.length : Int) ≤ 2 * cnt m l) :
    ((n : Int) * m - S) * ((n : Int) * m - S) ≤ n * Q - S * S := by
  have hp : (0 : Int) < n := by omega
  obtain ⟨s1, s2⟩ := sumI_scale n l
  obtain ⟨c1, c2⟩ := cnt_scale hp m l
  have fm := far_min ((n : Int) * m) S (l.map ((n : Int) * ·)) (by rw [c2, List.length_map]; exact h1) (by rw [c1, List.length_map]; exact h2)
  have fs := far_sum ((n : Int) * m) (l.map ((n : Int) * ·))
  have cs := far_cs S (l.map ((n : Int) * ·))
  rw [dsq_eq] at cs
  rw [s1, s2, List.length_map, hn, hS, hQ] at cs
  rw [s1, List.length_map, hn, hS] at fs
  obtain ⟨T1, hT1⟩ : ∃ T, far ((n : Int) * m) (l.map ((n : Int) * ·)) = T := ⟨_, rfl⟩
  obtain ⟨T2, hT2⟩ : ∃ T, far S (l.map ((n : Int) * ·)) = T := ⟨_, rfl⟩
  rw [hT1] at fm fs
  rw [hT2] at fm cs
  have q1 := sq_le fs.2 fs.1
  have q2 : T1 * T1 ≤ T2 * T2 := Int.mul_le_mul fm fm (by omega) (by omega)
  have e1 : ((n : Int) * S - n * (n * m)) * (n * S - n * (n * m)) = n * n * ((n * m - S) * (n * m - S)) := by
    rw [← Int.mul_sub, show (n : Int) * (S - n * m) * (n * (S - n * m)) = n * n * ((S - n * m) * (S - n * m)) by rw [Int.mul_assoc, Int.mul_left_comm (S - n * m) n, ← Int.mul_assoc n n], show S - (n : Int) * m = -(n * m - S) by omega, Int.neg_mul_neg]
  have e2 : (n : Int) * (n * n * Q - 2 * (S * (n * S)) + n * (S * S)) = n * n * (n * Q - S * S) := by
    have a1 : S * ((n : Int) * S) = n * (S * S) := Int.mul_left_comm ..
    have a2 : (n : Int) * n * Q = n * (n * Q) := Int.mul_assoc ..
    rw [a1, a2, show (n : Int) * (n * Q) - 2 * (n * (S * S)) + n * (S * S) = n * (n * Q) - n * (S * S) by omega, ← Int.mul_sub, ← Int.mul_assoc]
  rw [e1] at q1
  rw [e2] at cs
  exact Int.le_of_mul_le_mul_left (show (n : Int) * n * ((n * m - S) * (n * m - S)) ≤ n * n * (n * Q - S * S) by omega) (Int.mul_pos hp hp)
theorem srt_312 : srt [3, 1, 2] = [1, 2, 3] := srt_eq (by decide) (by decide)

end Go.Proofs.Ytlnagfmaiabhaaa

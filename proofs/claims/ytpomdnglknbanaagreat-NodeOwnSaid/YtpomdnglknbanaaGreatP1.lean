/-
  Plain facts on lists of integers: in whatever order; Samuelson's inequality. No Go in sight.
-/
import Derived.Test.YtpomdnglknbanaaGreatP0
set_option linter.unusedSimpArgs false
set_option linter.unusedVariables false
namespace Go.Proofs.YtpomdnglknbanaaGreat

theorem mul_bd {a b A B : Int} (h : 0 ≤ a ∧ a ≤ A) (h' : 0 ≤ b ∧ b ≤ B) : 0 ≤ a * b ∧ a * b ≤ A * B :=
  ⟨Int.mul_nonneg h.1 h'.1, Int.mul_le_mul h.2 h'.2 h'.1 (by omega)⟩
theorem sumI_perm {a b : List Int} (h : a.Perm b) : sumI a = sumI b := by
  induction h with
  | nil => rfl
  | cons x _ ih => simp [sumI, ih]
  | swap x y l => simp only [sumI]; omega
  | trans _ _ h1 h2 => exact h1.trans h2
theorem sqI_perm {a b : List Int} (h : a.Perm b) : sqI a = sqI b := by
  induction h with
  | nil => rfl
  | cons x _ ih => simp [sqI, ih]
  | swap x y l => simp only [sqI]; omega
  | trans _ _ h1 h2 => exact h1.trans h2
theorem spr_perm {a b : List Int} (h : a.Perm b) : spr a = spr b := by unfold spr; rw [sumI_perm h, sqI_perm h, h.length_eq]
theorem samuelson {l : List Int} {x : Int} (h : x ∈ l) : (l.length * x - sumI l) * (l.length * x - sumI l) ≤ (l.length - 1) * spr l := by
  obtain ⟨r, hr⟩ : ∃ r, r = l.erase x := ⟨_, rfl⟩
  have p : l.Perm (x :: r) := by rw [hr]; exact List.perm_cons_erase h
  rw [sumI_perm p, spr_perm p, p.length_eq, spr_cons]
  have a := spr_nonneg r
  have b : 0 ≤ (r.length : Int) * spr r := Int.mul_nonneg (by omega) a
  have d := dsq_eq x r
  have e : (r.length : Int) * dsq x r - (r.length * x - sumI r) * (r.length * x - sumI r) = spr r := by rw [d]; unfold spr; grind
  have f : (((x :: r).length : Int) * x - sumI (x :: r)) = r.length * x - sumI r := by simp only [List.length_cons, sumI, Int.natCast_add]; grind
  rw [f]
  have g : (((x :: r).length : Int) - 1) = r.length := by simp
  rw [g, Int.mul_add]
  omega
end Go.Proofs.YtpomdnglknbanaaGreat

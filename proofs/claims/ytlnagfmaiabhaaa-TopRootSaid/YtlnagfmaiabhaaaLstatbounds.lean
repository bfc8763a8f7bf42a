
import Derived.Test.YtlnagfmaiabhaaaSt
import Derived.Test.YtlnagfmaiabhaaaMm
import Derived.Test.YtlnagfmaiabhaaaP1
set_option linter.unusedSimpArgs false
set_option linter.unusedVariables false
namespace Go.Proofs.Ytlnagfmaiabhaaa
open Go.RowKit

theorem quad (s : Int) (l : List Int) : 0 ≤ 4 * sqI l - 4 * (s * sumI l) + l.length * (s * s) := by
  induction l with
  | nil => simp [sqI, sumI]
  | cons x l ih =>
    have h := sq_nonneg (2 * x - s)
    have e : 4 * sqI (x :: l) - 4 * (s * sumI (x :: l)) + ((x :: l).length : Int) * (s * s) = (4 * sqI l - 4 * (s * sumI l) + l.length * (s * s)) + (2 * x - s) * (2 * x - s) := by
      simp only [sqI, sumI, List.length_cons, Int.natCast_add]; grind
    omega
/-- Nagy: from below. -/
theorem nagy {l : List Int} {lo hi : Int} (h1 : lo ∈ l) (h2 : hi ∈ l) : (l.length : Int) * (hi - lo) * (hi - lo) ≤ 2 * spr l := by
  by_cases e : hi = lo
  · subst e
    have := spr_nonneg l
    simp; omega
  · obtain ⟨r, hr⟩ : ∃ r, r = (l.erase lo).erase hi := ⟨_, rfl⟩
    have p1 := List.perm_cons_erase h1
    have p2 : (l.erase lo).Perm (hi :: r) := by
      rw [hr]
      exact List.perm_cons_erase ((List.mem_erase_of_ne e).2 h2)
    have p : l.Perm (lo :: hi :: r) := p1.trans (p2.cons lo)
    rw [spr_perm p, p.length_eq]
    have q := quad (hi + lo) r
    have s := spr_nonneg r
    have e : 2 * spr (lo :: hi :: r) - ((lo :: hi :: r).length : Int) * (hi - lo) * (hi - lo) = 2 * spr r + (4 * sqI r - 4 * ((hi + lo) * sumI r) + r.length * ((hi + lo) * (hi + lo))) := by
      simp only [spr, sqI, sumI, List.length_cons, Int.natCast_add]; grind
    omega
/-- Bhatia, Davis: from above. -/
theorem bhatia {l : List Int} {lo hi : Int} (h : Btw lo hi l) : 0 ≤ (hi + lo) * sumI l - sqI l - l.length * (hi * lo) := by
  induction l with
  | nil => simp [sqI, sumI]
  | cons x l ih =>
    have a := ih h.tail
    have b := h.head
    have c : 0 ≤ (hi - x) * (x - lo) := Int.mul_nonneg (by omega) (by omega)
    have e : (hi + lo) * sumI (x :: l) - sqI (x :: l) - ((x :: l).length : Int) * (hi * lo) = ((hi + lo) * sumI l - sqI l - l.length * (hi * lo)) + (hi - x) * (x - lo) := by
      simp only [sqI, sumI, List.length_cons, Int.natCast_add]; grind
    omega
theorem davis {l : List Int} {lo hi : Int} (h : Btw lo hi l) : spr l ≤ (l.length * hi - sumI l) * (sumI l - l.length * lo) := by
  have b := bhatia h
  have c : 0 ≤ (l.length : Int) * ((hi + lo) * sumI l - sqI l - l.length * (hi * lo)) := Int.mul_nonneg (by omega) b
  have e : (l.length * hi - sumI l) * (sumI l - l.length * lo) - spr l = (l.length : Int) * ((hi + lo) * sumI l - sqI l - l.length * (hi * lo)) := by
    simp only [spr]; grind
  omega
theorem popoviciu {l : List Int} {lo hi : Int} (h : Btw lo hi l) : 4 * spr l ≤ l.length * l.length * (hi - lo) * (hi - lo) := by
  have a := davis h
  have b := sq_nonneg ((l.length * hi - sumI l) - (sumI l - l.length * lo))
  have e : l.length * l.length * (hi - lo) * (hi - lo) - 4 * ((l.length * hi - sumI l) * (sumI l - l.length * lo)) = ((l.length * hi - sumI l) - (sumI l - l.length * lo)) * ((l.length * hi - sumI l) - (sumI l - l.length * lo)) := by
    grind
  omega
theorem sumI_btw {l : List Int} {lo hi : Int} (h : Btw lo hi l) : l.length * lo ≤ sumI l ∧ sumI l ≤ l.length * hi := by
  induction l with
  | nil => simp [sumI]
  | cons x l ih =>
    have a := ih h.tail
    have b := h.head
    simp only [sumI, List.length_cons, Int.natCast_add, Int.add_mul]
    omega

end Go.Proofs.Ytlnagfmaiabhaaa

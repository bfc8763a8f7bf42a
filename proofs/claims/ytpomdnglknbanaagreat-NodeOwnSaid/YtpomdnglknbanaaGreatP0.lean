/-
  Plain facts on lists of integers: sums, sums of squares, what comes of them. No Go in sight.
-/
import Derived.WalkKit
set_option linter.unusedSimpArgs false
set_option linter.unusedVariables false
namespace Go.Proofs.YtpomdnglknbanaaGreat

/-- The sum. -/
def sumI : List Int → Int
  | [] => 0
  | x :: l => x + sumI l
/-- The sum of the squares. -/
def sqI : List Int → Int
  | [] => 0
  | x :: l => x * x + sqI l

theorem sumI_append (a b : List Int) : sumI (a ++ b) = sumI a + sumI b := by
  induction a with
  | nil => simp [sumI]
  | cons x a ih => simp only [List.cons_append, sumI, ih]; omega
theorem sqI_append (a b : List Int) : sqI (a ++ b) = sqI a + sqI b := by
  induction a with
  | nil => simp [sqI]
  | cons x a ih => simp only [List.cons_append, sqI, ih]; omega
theorem take_snoc (l : List Int) {k : Nat} (h : k < l.length) : l.take (k + 1) = l.take k ++ [l.getD k 0] := by
  rw [List.take_succ_eq_append_getElem h]; simp [h]
theorem sumI_snoc (l : List Int) {k : Nat} (h : k < l.length) : sumI (l.take (k + 1)) = sumI (l.take k) + l.getD k 0 := by
  rw [take_snoc l h, sumI_append]; simp [sumI]
theorem sqI_snoc (l : List Int) {k : Nat} (h : k < l.length) : sqI (l.take (k + 1)) = sqI (l.take k) + l.getD k 0 * l.getD k 0 := by
  rw [take_snoc l h, sqI_append]; simp [sqI]

/-- All of the list lie between a and b. -/
def Btw (a b : Int) (l : List Int) : Prop := ∀ x ∈ l, a ≤ x ∧ x ≤ b
instance (a b : Int) (l : List Int) : Decidable (Btw a b l) := by unfold Btw; infer_instance
theorem Btw.take {a b : Int} {l : List Int} (h : Btw a b l) (k : Nat) : Btw a b (l.take k) := fun x hx => h x (List.mem_of_mem_take hx)
theorem Btw.drop {a b : Int} {l : List Int} (h : Btw a b l) (k : Nat) : Btw a b (l.drop k) := fun x hx => h x (List.mem_of_mem_drop hx)
theorem Btw.get {a b : Int} {l : List Int} (h : Btw a b l) {k : Nat} (hk : k < l.length) : a ≤ l.getD k 0 ∧ l.getD k 0 ≤ b := by
  have : l.getD k 0 = l[k] := by simp [hk]
  rw [this]; exact h _ (List.getElem_mem hk)
theorem Btw.tail {a b x : Int} {l : List Int} (h : Btw a b (x :: l)) : Btw a b l := fun y hy => h y (List.mem_cons_of_mem _ hy)
theorem Btw.head {a b x : Int} {l : List Int} (h : Btw a b (x :: l)) : a ≤ x ∧ x ≤ b := h x List.mem_cons_self
theorem Btw.append {a b : Int} {l m : List Int} (h : Btw a b l) (h' : Btw a b m) : Btw a b (l ++ m) := fun x hx => by
  rcases List.mem_append.1 hx with hx | hx
  · exact h x hx
  · exact h' x hx
theorem Btw.one {a b x : Int} (h : a ≤ x) (h' : x ≤ b) : Btw a b [x] := fun y hy => by
  have : y = x := by simpa using hy
  subst this; exact ⟨h, h'⟩
theorem Btw.nil (a b : Int) : Btw a b [] := fun _ h => by cases h

theorem sq_nonneg (a : Int) : 0 ≤ a * a := by
  rcases Int.le_total 0 a with h | h
  · exact Int.mul_nonneg h h
  · exact Int.mul_nonneg_of_nonpos_of_nonpos h h
theorem le_sq (a : Int) : a ≤ a * a := by
  rcases Int.lt_or_le a 1 with h | h
  · have := sq_nonneg a; omega
  · have : 0 ≤ (a - 1) * a := Int.mul_nonneg (by omega) (by omega)
    rw [Int.sub_mul] at this; omega

theorem sq_le {a M : Int} (h : -M ≤ a) (h' : a ≤ M) : a * a ≤ M * M := by
  rcases Int.le_total 0 a with h0 | h0
  · exact Int.mul_le_mul h' h' h0 (by omega)
  · have h1 : (-a) * (-a) ≤ M * M := Int.mul_le_mul (by omega) (by omega) (by omega) (by omega)
    rwa [Int.neg_mul_neg] at h1
theorem sumI_bd {l : List Int} {M : Int} (h : Btw 0 M l) : 0 ≤ sumI l ∧ sumI l ≤ l.length * M := by
  induction l with
  | nil => simp [sumI]
  | cons x l ih =>
    have h1 := h.head
    have h2 := ih h.tail
    simp only [sumI, List.length_cons, Int.natCast_add, Int.add_mul]
    omega
theorem sqI_bd {l : List Int} {M : Int} (h : Btw 0 M l) : sumI l ≤ sqI l ∧ sqI l ≤ sumI l * M := by
  induction l with
  | nil => simp [sumI, sqI]
  | cons x l ih =>
    have h1 := h.head
    have h2 := ih h.tail
    have h3 := le_sq x
    have h4 : x * x ≤ x * M := Int.mul_le_mul_of_nonneg_left h1.2 h1.1
    simp only [sumI, sqI, Int.add_mul]
    omega

/-- How far all are from c, squared. -/
def dsq (c : Int) : List Int → Int
  | [] => 0
  | x :: l => (x - c) * (x - c) + dsq c l
theorem dsq_nonneg (c : Int) (l : List Int) : 0 ≤ dsq c l := by
  induction l with
  | nil => simp [dsq]
  | cons x l ih => have := sq_nonneg (x - c); simp only [dsq]; omega
theorem dsq_append (c : Int) (a b : List Int) : dsq c (a ++ b) = dsq c a + dsq c b := by
  induction a with
  | nil => simp [dsq]
  | cons x a ih => simp only [List.cons_append, dsq, ih]; omega
theorem dsq_eq (c : Int) (l : List Int) : dsq c l = sqI l - 2 * (c * sumI l) + l.length * (c * c) := by
  induction l with
  | nil => simp [dsq, sqI, sumI]
  | cons x l ih =>
    simp only [dsq, sqI, sumI, List.length_cons, Int.natCast_add, ih]
    grind
/-- n Q - S S: the spread. -/
def spr (l : List Int) : Int := l.length * sqI l - sumI l * sumI l
theorem spr_cons (x : Int) (l : List Int) : spr (x :: l) = spr l + dsq x l := by
  rw [dsq_eq]
  simp only [spr, sqI, sumI, List.length_cons, Int.natCast_add]
  grind
theorem spr_nonneg (l : List Int) : 0 ≤ spr l := by
  induction l with
  | nil => simp [spr, sqI, sumI]
  | cons x l ih => rw [spr_cons]; have := dsq_nonneg x l; omega
theorem spr_snoc (l : List Int) (x : Int) : spr (l ++ [x]) = spr l + dsq x l := by
  rw [dsq_eq]
  simp only [spr, sqI_append, sumI_append, sqI, sumI, List.length_append, List.length_cons, List.length_nil, Int.natCast_add]
  grind
end Go.Proofs.YtpomdnglknbanaaGreat

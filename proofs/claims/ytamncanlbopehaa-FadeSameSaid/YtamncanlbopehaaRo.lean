/-
  Plain facts: a list turned around. No Go in sight.
-/
import Derived.Test.YtamncanlbopehaaP1
set_option linter.unusedSimpArgs false
set_option linter.unusedVariables false
namespace Go.Proofs.Ytamncanlbopehaa

/-- The list from place t on, then what is ahead of it. -/
def rot (t : Nat) (l : List Int) : List Int := l.drop t ++ l.take t
theorem rot_len (t : Nat) (l : List Int) : (rot t l).length = l.length := by
  simp only [rot, List.length_append, List.length_drop, List.length_take]; omega
theorem rot_perm (t : Nat) (l : List Int) : (rot t l).Perm l := by
  have h : (l.take t ++ l.drop t).Perm (l.drop t ++ l.take t) := List.perm_append_comm
  rw [List.take_append_drop] at h
  exact h.symm
theorem rot_get {t k : Nat} {l : List Int} (ht : t < l.length) (hk : k < l.length) : (rot t l).getD k 0 = l.getD ((k + t) % l.length) 0 := by
  simp only [rot, List.getD]
  by_cases c : k + t < l.length
  · rw [Nat.mod_eq_of_lt c, List.getElem?_append_left (by rw [List.length_drop]; omega), List.getElem?_drop, Nat.add_comm]
  · rw [Nat.mod_eq_sub_mod (by omega), Nat.mod_eq_of_lt (by omega), List.getElem?_append_right (by rw [List.length_drop]; omega), List.length_drop, List.getElem?_take]
    rw [if_pos (by omega), show k - (l.length - t) = k + t - l.length by omega]
theorem rot_btw {a b : Int} {t : Nat} {l : List Int} (h : Btw a b l) : Btw a b (rot t l) := fun x hx => h x ((rot_perm t l).mem_iff.1 hx)
theorem rot_sum (t : Nat) (l : List Int) : sumI (rot t l) = sumI l := sumI_perm (rot_perm t l)
theorem rot_sq (t : Nat) (l : List Int) : sqI (rot t l) = sqI l := sqI_perm (rot_perm t l)
/-- As much more each. -/
def addI (b : Int) (l : List Int) : List Int := l.map (· + b)
/-- So many times each. -/
def mulI (c : Int) (l : List Int) : List Int := l.map (· * c)
theorem addI_len (b : Int) (l : List Int) : (addI b l).length = l.length := by simp [addI]
theorem mulI_len (b : Int) (l : List Int) : (mulI b l).length = l.length := by simp [mulI]
theorem addI_get {b : Int} {l : List Int} {k : Nat} (h : k < l.length) : (addI b l).getD k 0 = l.getD k 0 + b := by simp [addI, List.getD, h]
theorem mulI_get {b : Int} {l : List Int} {k : Nat} (h : k < l.length) : (mulI b l).getD k 0 = l.getD k 0 * b := by simp [mulI, List.getD, h]
theorem addI_sum (b : Int) (l : List Int) : sumI (addI b l) = sumI l + l.length * b := by
  induction l with
  | nil => simp [addI, sumI]
  | cons x l ih =>
    have : addI b (x :: l) = (x + b) :: addI b l := rfl
    simp only [this, sumI, ih, List.length_cons, Int.natCast_add, Int.add_mul]; omega
theorem addI_sq (b : Int) (l : List Int) : sqI (addI b l) = sqI l + 2 * (b * sumI l) + l.length * (b * b) := by
  induction l with
  | nil => simp [addI, sqI, sumI]
  | cons x l ih =>
    have : addI b (x :: l) = (x + b) :: addI b l := rfl
    simp only [this, sumI, sqI, ih, List.length_cons, Int.natCast_add]; grind
theorem mulI_sum (b : Int) (l : List Int) : sumI (mulI b l) = sumI l * b := by
  induction l with
  | nil => simp [mulI, sumI]
  | cons x l ih =>
    have : mulI b (x :: l) = (x * b) :: mulI b l := rfl
    simp only [this, sumI, ih, Int.add_mul]
theorem mulI_sq (b : Int) (l : List Int) : sqI (mulI b l) = sqI l * (b * b) := by
  induction l with
  | nil => simp [mulI, sqI]
  | cons x l ih =>
    have : mulI b (x :: l) = (x * b) :: mulI b l := rfl
    simp only [this, sqI, ih]; grind
theorem addI_spr (b : Int) (l : List Int) : spr (addI b l) = spr l := by
  unfold spr; rw [addI_sum, addI_sq, addI_len]; grind
theorem rot_spr (t : Nat) (l : List Int) : spr (rot t l) = spr l := spr_perm (rot_perm t l)
theorem mulI_spr (b : Int) (l : List Int) : spr (mulI b l) = spr l * (b * b) := by
  unfold spr; rw [mulI_sum, mulI_sq, mulI_len]; grind
theorem addI_btw {a c b : Int} {l : List Int} (h : Btw a c l) : Btw (a + b) (c + b) (addI b l) := by
  intro x hx
  obtain ⟨y, hy, rfl⟩ := List.mem_map.1 hx
  have := h y hy; omega
theorem mulI_btw {c b : Int} {l : List Int} (hb : 0 ≤ b) (h : Btw 0 c l) : Btw 0 (c * b) (mulI b l) := by
  intro x hx
  obtain ⟨y, hy, rfl⟩ := List.mem_map.1 hx
  have := h y hy
  exact ⟨Int.mul_nonneg this.1 hb, Int.mul_le_mul_of_nonneg_right this.2 hb⟩
theorem Btw.mono {a b c d : Int} {l : List Int} (h : Btw a b l) (h1 : c ≤ a) (h2 : b ≤ d) : Btw c d l := fun x hx => by have := h x hx; omega
/-- n times the same. -/
theorem sumI_rep (n : Nat) (x : Int) : sumI (List.replicate n x) = n * x := by
  induction n with
  | zero => simp [sumI]
  | succ n ih => rw [List.replicate_succ]; simp only [sumI, ih, Int.natCast_add, Int.add_mul]; omega
theorem sqI_rep (n : Nat) (x : Int) : sqI (List.replicate n x) = n * (x * x) := by
  induction n with
  | zero => simp [sqI]
  | succ n ih => rw [List.replicate_succ]; simp only [sqI, ih, Int.natCast_add, Int.add_mul]; omega
theorem spr_rep (n : Nat) (x : Int) : spr (List.replicate n x) = 0 := by
  unfold spr; rw [sumI_rep, sqI_rep, List.length_replicate]; grind
theorem rep_btw {n : Nat} {a b x : Int} (h : a ≤ x ∧ x ≤ b) : Btw a b (List.replicate n x) := fun y hy => by rw [(List.mem_replicate.1 hy).2]; exact h
end Go.Proofs.Ytamncanlbopehaa

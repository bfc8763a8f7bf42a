/-
  Plain: decimal digits.
-/
import Derived.WalkKit
set_option linter.unusedSimpArgs false
set_option linter.unusedVariables false
namespace Go.Proofs.Ytlnagfmaiabhaaa

/-- The digits of n as bytes, the lowest first. -/
def dgl (n : Nat) : List Nat := if h : n < 10 then [48 + n] else (48 + n % 10) :: dgl (n / 10)
termination_by n
decreasing_by omega
theorem dgl_lt {n : Nat} (h : n < 10) : dgl n = [48 + n] := by rw [dgl, dif_pos h]
theorem dgl_ge {n : Nat} (h : ¬ n < 10) : dgl n = (48 + n % 10) :: dgl (n / 10) := by rw [dgl, dif_neg h]
def txt (n : Nat) : List Nat := (dgl n).reverse
theorem txt_lt {n : Nat} (h : n < 10) : txt n = [48 + n] := by rw [txt, dgl_lt h]; rfl
theorem txt_ge {n : Nat} (h : ¬ n < 10) : txt n = txt (n / 10) ++ [48 + n % 10] := by rw [txt, dgl_ge h]; simp [txt]
def pv (l : List Nat) : Nat := l.foldl (fun a b => a * 10 + (b - 48)) 0
theorem pv_snoc (l : List Nat) (b : Nat) : pv (l ++ [b]) = pv l * 10 + (b - 48) := by simp [pv]
theorem pv_txt : ∀ n, pv (txt n) = n := by
  intro n
  induction n using Nat.strongRecOn with
  | _ n ih =>
    by_cases h : n < 10
    · rw [txt_lt h]; simp [pv]
    · rw [txt_ge h, pv_snoc, ih (n / 10) (by omega)]; omega
def Dig (l : List Nat) : Prop := ∀ b ∈ l, 48 ≤ b ∧ b ≤ 57
/-- A numeral. -/
def Num (l : List Nat) : Prop := Dig l ∧ l ≠ [] ∧ (1 < l.length → l.getD 0 0 ≠ 48)
theorem txt_ne (n : Nat) : txt n ≠ [] := by
  by_cases h : n < 10
  · rw [txt_lt h]; simp
  · rw [txt_ge h]; simp
theorem txt_dig : ∀ n, Dig (txt n) := by
  intro n
  induction n using Nat.strongRecOn with
  | _ n ih =>
    by_cases h : n < 10
    · rw [txt_lt h]; intro b hb; simp at hb; omega
    · rw [txt_ge h]
      intro b hb
      rcases List.mem_append.1 hb with hb | hb
      · exact ih (n / 10) (by omega) b hb
      · simp at hb; omega
theorem txt_head : ∀ n, 0 < n → (txt n).getD 0 0 ≠ 48 := by
  intro n
  induction n using Nat.strongRecOn with
  | _ n ih =>
    intro h0
    by_cases h : n < 10
    · rw [txt_lt h]; simp; omega
    · rw [txt_ge h]
      have h1 := ih (n / 10) (by omega) (by omega)
      have h2 := List.length_pos_iff.2 (txt_ne (n / 10))
      simp only [List.getD, List.getElem?_append_left h2]
      exact h1
theorem txt_num (n : Nat) : Num (txt n) := by
  refine ⟨txt_dig n, txt_ne n, fun h => ?_⟩
  rcases Nat.eq_zero_or_pos n with h0 | h0
  · subst h0; rw [txt_lt (by omega)] at h; simp at h
  · exact txt_head n h0
theorem snoc_of_ne {l : List Nat} (h : l ≠ []) : ∃ l' b, l = l' ++ [b] := ⟨l.dropLast, l.getLast h, (List.dropLast_concat_getLast h).symm⟩
theorem head_app {l' : List Nat} {b : Nat} (hp : 0 < l'.length) : (l' ++ [b]).getD 0 0 = l'.getD 0 0 := by simp only [List.getD, List.getElem?_append_left hp]
theorem pv_pos : ∀ (k : Nat) (l : List Nat), l.length = k → Dig l → l ≠ [] → l.getD 0 0 ≠ 48 → 0 < pv l := by
  intro k
  induction k with
  | zero => intro l hl _ hne; exact absurd (List.eq_nil_of_length_eq_zero hl) hne
  | succ k ih =>
    intro l hl hd hne hh
    obtain ⟨l', b, rfl⟩ := snoc_of_ne hne
    rw [pv_snoc]
    by_cases c : l' = []
    · subst c
      simp at hh
      have := hd b (by simp)
      omega
    · have hp := List.length_pos_iff.2 c
      have := ih l' (by simpa using hl) (fun x hx => hd x (by simp [hx])) c (by rwa [head_app hp] at hh)
      omega
theorem txt_pv : ∀ (k : Nat) (l : List Nat), l.length = k → Num l → txt (pv l) = l := by
  intro k
  induction k with
  | zero => intro l hl h; exact absurd (List.eq_nil_of_length_eq_zero hl) h.2.1
  | succ k ih =>
    intro l hl h
    obtain ⟨hd, hne, hh⟩ := h
    obtain ⟨l', b, rfl⟩ := snoc_of_ne hne
    have hb := hd b (by simp)
    rw [pv_snoc]
    by_cases c : l' = []
    · subst c
      simp only [pv, List.foldl_nil, Nat.zero_mul, Nat.zero_add, List.nil_append]
      rw [txt_lt (by omega)]
      congr 1; omega
    · have hp := List.length_pos_iff.2 c
      have hh' : l'.getD 0 0 ≠ 48 := by
        have := hh (by simp; omega)
        rwa [head_app hp] at this
      have hd' : Dig l' := fun x hx => hd x (by simp [hx])
      have hp := pv_pos _ l' rfl hd' c hh'
      rw [txt_ge (by omega), show (pv l' * 10 + (b - 48)) / 10 = pv l' by omega, ih l' (by simpa using hl) ⟨hd', c, fun _ => hh'⟩]
      congr 2; omega
theorem txt_bd : ∀ n, n < 10 ^ (txt n).length ∧ (0 < n → 10 ^ ((txt n).length - 1) ≤ n) := by
  intro n
  induction n using Nat.strongRecOn with
  | _ n ih =>
    by_cases h : n < 10
    · rw [txt_lt h]; simp; exact ⟨h, fun h => h⟩
    · have h1 := ih (n / 10) (by omega)
      have h2 := List.length_pos_iff.2 (txt_ne (n / 10))
      rw [txt_ge h, List.length_append, List.length_singleton]
      obtain ⟨k, hk⟩ : ∃ k, (txt (n / 10)).length = k + 1 := ⟨_, (Nat.sub_add_cancel h2).symm⟩
      rw [hk] at h1 ⊢
      simp only [Nat.add_sub_cancel] at h1 ⊢
      have e1 : 10 ^ (k + 1 + 1) = 10 ^ (k + 1) * 10 := Nat.pow_succ ..
      have e2 : 10 ^ (k + 1) = 10 ^ k * 10 := Nat.pow_succ ..
      refine ⟨by omega, fun _ => ?_⟩
      have := h1.2 (by omega)
      omega
theorem txt_len_le {n k : Nat} (h : n < 10 ^ k) (hk : 0 < k) : (txt n).length ≤ k := by
  rcases Nat.eq_zero_or_pos n with h0 | h0
  · subst h0; rw [txt_lt (by omega)]; exact hk
  · have := (txt_bd n).2 h0
    rcases Nat.lt_or_ge k (txt n).length with c | c
    · have := Nat.pow_le_pow_right (show 0 < 10 by omega) (show k ≤ (txt n).length - 1 by omega)
      omega
    · exact c
theorem txt_len_mono {a b : Nat} (h : a ≤ b) : (txt a).length ≤ (txt b).length := txt_len_le (Nat.lt_of_le_of_lt h (txt_bd b).1) (List.length_pos_iff.2 (txt_ne b))
theorem dgl_len (n : Nat) : (dgl n).length = (txt n).length := by simp [txt]
theorem txt_len39 {n : Nat} (h : n < 340282366920938463463374607431768211456) : (txt n).length ≤ 39 := txt_len_le (Nat.lt_trans h (by decide)) (by omega)
/-- The order of the digits is that of the numbers. -/
def lexLt : List Nat → List Nat → Bool
  | [], [] => false
  | [], _ :: _ => true
  | _ :: _, [] => false
  | a :: r, b :: s => a < b || (a == b && lexLt r s)
theorem pvFrom : ∀ (l : List Nat) (c : Nat), l.foldl (fun a b => a * 10 + (b - 48)) c = c * 10 ^ l.length + pv l := by
  intro l
  induction l with
  | nil => intro c; simp [pv]
  | cons x l ih =>
    intro c
    have e : 10 ^ (l.length + 1) = 10 ^ l.length * 10 := Nat.pow_succ ..
    simp only [List.foldl_cons, List.length_cons, pv, Nat.zero_mul, Nat.zero_add]
    rw [ih, ih, e, Nat.add_mul]
    simp only [pv]
    rw [Nat.mul_assoc c 10, Nat.mul_comm 10 (10 ^ l.length)]
    omega
theorem pv_cons (x : Nat) (l : List Nat) : pv (x :: l) = (x - 48) * 10 ^ l.length + pv l := by
  have := pvFrom l (x - 48)
  simpa [pv] using this
theorem pv_lt : ∀ l, Dig l → pv l < 10 ^ l.length := by
  intro l
  induction l with
  | nil => intro _; simp [pv]
  | cons x l ih =>
    intro hd
    have h1 := ih fun b hb => hd b (by simp [hb])
    have h2 := hd x (by simp)
    have e : 10 ^ (l.length + 1) = 10 ^ l.length * 10 := Nat.pow_succ ..
    rw [pv_cons, List.length_cons, e]
    have : (x - 48) * 10 ^ l.length ≤ 9 * 10 ^ l.length := Nat.mul_le_mul_right _ (by omega)
    omega
theorem lex_of_lt : ∀ (l m : List Nat), l.length = m.length → Dig l → Dig m → pv l < pv m → lexLt l m = true := by
  intro l
  induction l with
  | nil => intro m hl _ _ h; obtain rfl : m = [] := List.eq_nil_of_length_eq_zero hl.symm; simp [pv] at h
  | cons x l ih =>
    intro m hl hd hd' h
    cases m with
    | nil => simp at hl
    | cons y m =>
      have hl' : l.length = m.length := by simpa using hl
      have hx := hd x (by simp)
      have hy := hd' y (by simp)
      have pl := pv_lt l fun b hb => hd b (by simp [hb])
      have pm := pv_lt m fun b hb => hd' b (by simp [hb])
      rw [pv_cons, pv_cons] at h
      simp only [lexLt, Bool.or_eq_true, decide_eq_true_eq, Bool.and_eq_true, beq_iff_eq]
      rcases Nat.lt_trichotomy x y with c | c | c
      · exact .inl c
      · subst c
        refine .inr ⟨rfl, ih m hl' (fun b hb => hd b (by simp [hb])) (fun b hb => hd' b (by simp [hb])) ?_⟩
        rw [hl'] at h
        omega
      · have : (y - 48 + 1) * 10 ^ l.length ≤ (x - 48) * 10 ^ l.length := Nat.mul_le_mul_right _ (by omega)
        rw [Nat.add_mul] at this
        rw [← hl'] at h pm
        omega
theorem txt_order {a b : Nat} (h : a < b) : (txt a).length < (txt b).length ∨ ((txt a).length = (txt b).length ∧ lexLt (txt a) (txt b) = true) := by
  rcases Nat.lt_or_eq_of_le (txt_len_mono (Nat.le_of_lt h)) with c | c
  · exact .inl c
  · exact .inr ⟨c, lex_of_lt _ _ c (txt_dig a) (txt_dig b) (by rw [pv_txt, pv_txt]; exact h)⟩
end Go.Proofs.Ytlnagfmaiabhaaa

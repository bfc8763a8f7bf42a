/-
  Plain: how many values have so many bits.
-/
import Derived.Test.YtlnagfmaiabhaaaHj
import Derived.Test.YtlnagfmaiabhaaaHb
import Derived.Test.YtlnagfmaiabhaaaRp
import Derived.Lib.BitFns
import Derived.Lib.ItoaNum
set_option linter.unusedSimpArgs false
set_option linter.unusedVariables false
namespace Go.Proofs.Ytlnagfmaiabhaaa
def bl (x : Int) : Nat := Go.Lib.bitLen x.toNat
def hc (l : List Int) : List Int := (List.range 26).map fun k => ((l.countP fun x => bl x == k : Nat) : Int)
theorem hc_len (l : List Int) : (hc l).length = 26 := by simp [hc]
theorem hc_get (l : List Int) {k : Nat} (h : k < 26) : (hc l).getD k 0 = ((l.countP fun x => bl x == k : Nat) : Int) := by
  simp [hc, List.getD, h]
theorem hc_nil : hc [] = List.replicate 26 0 := by decide
theorem hc_snoc (l : List Int) (x : Int) (h : bl x < 26) : hc (l ++ [x]) = (hc l).set (bl x) ((hc l).getD (bl x) 0 + 1) := by
  apply List.ext_getElem?
  intro i
  rw [List.getElem?_set]
  by_cases hi : i < 26
  · have e : ∀ l : List Int, (hc l)[i]? = some ((l.countP fun x => bl x == i : Nat) : Int) := fun l => by simp [hc, hi]
    rw [e, e]
    by_cases c : bl x = i
    · subst c
      rw [if_pos rfl, if_pos (by rw [hc_len]; exact h), hc_get l h]
      simp
    · rw [if_neg c]
      simp [c]
  · have e : ∀ l : List Int, (hc l)[i]? = none := fun l => by simp [hc, hi]
    rw [e, e, if_neg (by omega)]
theorem hc_perm {a b : List Int} (h : a.Perm b) : hc a = hc b := by
  unfold hc
  congr 1
  funext k
  rw [h.countP_eq]
theorem hc_app (a b : List Int) : ∀ k, k < 26 → (hc a).getD k 0 + (hc b).getD k 0 = (hc (a ++ b)).getD k 0 := fun k hk => by
  rw [hc_get a hk, hc_get b hk, hc_get _ hk, List.countP_append]
  simp
theorem hc_btw (l : List Int) (h : (l.length : Int) ≤ 1073741824) : Btw 0 1073741824 (hc l) := fun y hy => by
  simp only [hc, List.mem_map] at hy
  obtain ⟨k, _, rfl⟩ := hy
  have : l.countP (fun x => bl x == k) ≤ l.length := List.countP_le_length
  omega
theorem hc_take (l : List Int) : ∀ k, k ≤ 26 → sumI ((hc l).take k) = ((l.countP fun x => decide (bl x < k) : Nat) : Int) := by
  intro k
  induction k with
  | zero => intro _; simp [sumI]
  | succ k ih =>
    intro hk
    rw [sumI_snoc _ (by rw [hc_len]; omega), ih (by omega), hc_get l (by omega)]
    have : ∀ l : List Int, (l.countP fun x => decide (bl x < k)) + (l.countP fun x => bl x == k) = l.countP fun x => decide (bl x < k + 1) := by
      intro l
      induction l with
      | nil => rfl
      | cons x l ihl =>
        simp only [List.countP_cons]
        by_cases c1 : bl x < k
        · simp [c1, show ¬ bl x = k by omega, show bl x < k + 1 by omega]; omega
        · by_cases c2 : bl x = k
          · simp [c2]; omega
          · simp [c1, c2, show ¬ bl x < k + 1 by omega]; omega
    have := this l
    omega
open Go in
theorem bitLen_bounds' (x : Nat) (h : x < 18446744073709551616) (h0 : x ≠ 0) : ∃ k : Nat, Lib.bitLen x = k + 1 ∧ 2 ^ k ≤ x ∧ x < 2 ^ (k + 1) := by
  obtain ⟨h1, h2, h3⟩ := Lib.bitLenAux_bounds 64 x h h0
  refine ⟨Lib.bitLenAux 64 x - 1, ?_, h2, ?_⟩
  · unfold Lib.bitLen; omega
  · rw [show Lib.bitLenAux 64 x - 1 + 1 = Lib.bitLenAux 64 x from by omega]; exact h3


theorem bl_zero : bl 0 = 0 := by decide
theorem bl_pos {x : Int} (h : 1 ≤ x) (h2 : x ≤ 16777216) : ∃ k : Nat, bl x = k + 1 ∧ k ≤ 24 ∧ (2 : Int) ^ k ≤ x ∧ x < 2 ^ (k + 1) := by
  obtain ⟨k, e, l, u⟩ := bitLen_bounds' x.toNat (by omega) (by omega)
  have c1 : ((2 ^ k : Nat) : Int) = (2 : Int) ^ k := by simp
  have c2 : ((2 ^ (k + 1) : Nat) : Int) = (2 : Int) ^ (k + 1) := by simp
  refine ⟨k, e, ?_, by omega, by omega⟩
  rcases Nat.lt_or_ge 24 k with h | h
  · have : 2 ^ 25 ≤ 2 ^ k := Nat.pow_le_pow_right (by omega) h
    omega
  · exact h
theorem bl_lt {x : Int} (h : 0 ≤ x ∧ x ≤ 16777216) : bl x < 26 := by
  rcases Int.lt_or_le 0 x with c | c
  · obtain ⟨k, e, hk, _⟩ := bl_pos (by omega : 1 ≤ x) h.2
    omega
  · obtain rfl : x = 0 := by omega
    rw [bl_zero]; omega
theorem bl_mono {x y : Int} (hy : 0 ≤ y) (hyx : y ≤ x) (hx : x ≤ 16777216) : bl y ≤ bl x := by
  rcases Int.lt_or_le 0 y with c | c
  · obtain ⟨k, e, _, a, b⟩ := bl_pos (by omega : 1 ≤ y) (by omega)
    obtain ⟨k', e', _, a', b'⟩ := bl_pos (by omega : 1 ≤ x) hx
    rcases Nat.lt_or_ge k' k with h | h
    · have h1 : 2 ^ (k' + 1) ≤ 2 ^ k := Nat.pow_le_pow_right (by omega) h
      have c1 : ((2 ^ k : Nat) : Int) = (2 : Int) ^ k := by simp
      have c2 : ((2 ^ (k' + 1) : Nat) : Int) = (2 : Int) ^ (k' + 1) := by simp
      omega
    · omega
  · obtain rfl : y = 0 := by omega
    rw [bl_zero]; omega
theorem below_cnt (t : Int) : ∀ l : List Int, ((l.countP fun y => decide (y < t) : Nat) : Int) + cnt t l = l.length := by
  intro l
  induction l with
  | nil => rfl
  | cons y l ih =>
    simp only [List.countP_cons, cnt, List.length_cons]
    by_cases c : y < t
    · rw [if_neg (show ¬ t ≤ y by omega)]; simp [c]; omega
    · rw [if_pos (show t ≤ y by omega)]; simp [c]; omega
theorem hc_place (l : List Int) (r : Nat) (hr : r < l.length) (hb : Btw 0 16777216 l) : sumI ((hc l).take (bl ((srt l).getD r 0))) < r + 1 ∧ (r : Int) + 1 ≤ sumI ((hc l).take (bl ((srt l).getD r 0) + 1)) := by
  obtain ⟨x, hx⟩ : ∃ x, (srt l).getD r 0 = x := ⟨_, rfl⟩
  have hxm := kth_mem l r hr
  have k1 := kth_iff l r hr x
  have k2 := kth_iff l r hr (x + 1)
  rw [hx] at hxm k1 k2 ⊢
  have hxb := hb x hxm
  have hbl := bl_lt hxb
  rw [hc_take l _ (by omega), hc_take l _ (by omega)]
  have c1 := below_cnt x l
  have c2 := below_cnt (x + 1) l
  have d1 : (l.countP fun y => decide (bl y < bl x)) ≤ l.countP fun y => decide (y < x) := List.countP_mono_left fun y hy h => by
    have hyb := hb y hy
    simp only [decide_eq_true_eq] at *
    rcases Int.lt_or_le y x with c | c
    · exact c
    · have := bl_mono hxb.1 c hyb.2; omega
  have d2 : (l.countP fun y => decide (y < x + 1)) ≤ l.countP fun y => decide (bl y < bl x + 1) := List.countP_mono_left fun y hy h => by
    have hyb := hb y hy
    simp only [decide_eq_true_eq] at *
    have := bl_mono hyb.1 (by omega : y ≤ x) hxb.2
    omega
  have e1 := k1.1 (Int.le_refl _)
  have e2 : ¬ ((l.length : Int) - r ≤ cnt (x + 1) l) := fun h => by have := k2.2 h; omega
  omega
theorem hc_sum (l : List Int) (hb : Btw 0 16777216 l) : sumI (hc l) = l.length := by
  have h := hc_take l 26 (Nat.le_refl _)
  rw [List.take_of_length_le (by rw [hc_len]; exact Nat.le_refl _)] at h
  rw [h, List.countP_eq_length.2 (fun x hx => by simpa using bl_lt (hb x hx))]
end Go.Proofs.Ytlnagfmaiabhaaa

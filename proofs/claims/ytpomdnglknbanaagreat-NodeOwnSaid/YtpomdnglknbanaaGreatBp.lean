/-
  A heartbeat as bytes: plain.
-/
import Derived.Test.YtpomdnglknbanaaGreatCo
import Derived.Test.YtpomdnglknbanaaGreatXo
set_option linter.unusedSimpArgs false
set_option linter.unusedVariables false
namespace Go.Proofs.YtpomdnglknbanaaGreat

def IdOK (l : List Nat) : Prop := 1 ≤ l.length ∧ l.length ≤ 8 ∧ ∀ x ∈ l, 97 ≤ x ∧ x ≤ 122
def BOK (id : List Nat) (i s : Nat) : Prop := IdOK id ∧ i < 2147483648 ∧ 1 ≤ s ∧ s < 2147483648
def fourL (n : Nat) : List Nat := [n / 16777216 % 256, n / 65536 % 256, n / 256 % 256, n % 256]
def numL (l : List Nat) : Nat := l.getD 0 0 * 16777216 + l.getD 1 0 * 65536 + l.getD 2 0 * 256 + l.getD 3 0
def plainL (id : List Nat) (i s : Nat) : List Nat := [72, id.length] ++ id ++ fourL i ++ fourL s
def encL (id : List Nat) (i s : Nat) : List Nat := plainL id i s ++ fourL (crcOf (plainL id i s))

theorem fourL_len (n : Nat) : (fourL n).length = 4 := rfl
theorem fourL_bytes (n : Nat) : Bytes (fourL n) := by
  intro x hx
  simp [fourL] at hx
  omega
theorem numL_four {n : Nat} (h : n < 4294967296) (r : List Nat) : numL (fourL n ++ r) = n := by
  simp [numL, fourL, List.getD]
  omega
theorem four_numL {l : List Nat} (hb : Bytes l) (hl : l.length = 4) : fourL (numL l) = l := by
  match l, hl with
  | [a, b, c, d], _ =>
    have h1 := hb a (by simp)
    have h2 := hb b (by simp)
    have h3 := hb c (by simp)
    have h4 := hb d (by simp)
    simp [numL, fourL, List.getD]
    omega
theorem numL_take (l : List Nat) (n : Nat) (hn : 4 ≤ n) : numL (l.take n) = numL l := by
  simp [numL, List.getD, List.getElem?_take, show 0 < n by omega, show 1 < n by omega, show 2 < n by omega, show 3 < n by omega]
theorem IdOK.bytes {l : List Nat} (h : IdOK l) : Bytes l := fun x hx => by have := h.2.2 x hx; omega
theorem plainL_len (id : List Nat) (i s : Nat) : (plainL id i s).length = 10 + id.length := by simp [plainL, fourL_len]; omega
theorem encL_len (id : List Nat) (i s : Nat) : (encL id i s).length = 14 + id.length := by simp [encL, plainL_len, fourL_len]; omega
theorem Bytes.app {a b : List Nat} (ha : Bytes a) (hb : Bytes b) : Bytes (a ++ b) := fun x hx => by
  rcases List.mem_append.1 hx with h | h
  · exact ha x h
  · exact hb x h
theorem plainL_bytes {id : List Nat} {i s : Nat} (h : IdOK id) : Bytes (plainL id i s) := by
  refine ((Bytes.app (fun x hx => ?_) h.bytes).app (fourL_bytes i)).app (fourL_bytes s)
  have h2 := h.2.1
  simp at hx
  omega
theorem encL_bytes {id : List Nat} {i s : Nat} (h : IdOK id) : Bytes (encL id i s) := (plainL_bytes h).app (fourL_bytes _)

/-- What the text is told to be. -/
def decE (l : List Nat) : Nat :=
  if l.length < 2 then 8
  else if l.getD 0 0 ≠ 72 ∨ l.getD 1 0 < 1 ∨ 8 < l.getD 1 0 then 3
  else if l.length < 14 + l.getD 1 0 then 8
  else if 14 + l.getD 1 0 < l.length then 3
  else if crcOf (l.take (10 + l.getD 1 0)) ≠ numL (l.drop (10 + l.getD 1 0)) then 9
  else 0
def decId (l : List Nat) : List Nat := (l.drop 2).take (l.getD 1 0)
def decI (l : List Nat) : Nat := numL (l.drop (2 + l.getD 1 0))
def decS (l : List Nat) : Nat := numL (l.drop (6 + l.getD 1 0))

/-- A text in its parts. -/
theorem dec_parts {l : List Nat} (hb : Bytes l) (h : decE l = 0) : encL (decId l) (decI l) (decS l) = l ∧ (decId l).length = l.getD 1 0 ∧ 1 ≤ l.getD 1 0 ∧ l.getD 1 0 ≤ 8 ∧ l.length = 14 + l.getD 1 0 := by
  unfold decE at h
  split at h
  · cases h
  · split at h
    · cases h
    · split at h
      · cases h
      · split at h
        · cases h
        · split at h
          · cases h
          · rename_i h1 h2 h3 h4 h5
            unfold decId decI decS
            generalize hk : l.getD 1 0 = k at h2 h3 h4 h5 ⊢
            have k1 : 1 ≤ k ∧ k ≤ 8 := by omega
            have hl : l.length = 14 + k := by omega
            have hid : ((l.drop 2).take k).length = k := by rw [List.length_take, List.length_drop]; omega
            have bd : ∀ j, Bytes (l.drop j) := fun j x hx => hb x (List.mem_of_mem_drop hx)
            have f4 : ∀ j, j + 4 ≤ l.length → fourL (numL (l.drop j)) = (l.drop j).take 4 := fun j hj => by
              rw [← numL_take (l.drop j) 4 (by omega)]
              exact four_numL (fun x hx => bd j x (List.mem_of_mem_take hx)) (by rw [List.length_take, List.length_drop]; omega)
            have cut : ∀ (j m : Nat), l.drop j = (l.drop j).take m ++ l.drop (j + m) := fun j m => by
              rw [← List.drop_drop]; exact (List.take_append_drop m (l.drop j)).symm
            have e0 : l.take 2 = [72, k] := by
              have h20 : l.getD 0 0 = 72 := by omega
              have h21 := hk
              clear h2 h3 h4 h5 f4 cut bd hid hb
              match l, h1, h20, h21 with
              | [], h1, _, _ => simp at h1
              | [_], h1, _, _ => simp at h1
              | a :: b :: r, _, h20, h21 =>
                simp [List.getD] at h20 h21
                simp [h20, h21]
            have hp : plainL ((l.drop 2).take k) (numL (l.drop (2 + k))) (numL (l.drop (6 + k))) = l.take (10 + k) := by
              unfold plainL
              rw [hid, f4 (2 + k) (by omega), f4 (6 + k) (by omega), ← e0]
              have a1 : l.take (2 + k) = l.take 2 ++ (l.drop 2).take k := List.take_add ..
              have a2 : l.take (2 + k + 4) = l.take (2 + k) ++ (l.drop (2 + k)).take 4 := List.take_add ..
              have a3 : l.take (6 + k + 4) = l.take (6 + k) ++ (l.drop (6 + k)).take 4 := List.take_add ..
              rw [show 10 + k = 6 + k + 4 by omega, a3, show 6 + k = 2 + k + 4 by omega, a2, a1]
            refine ⟨?_, hid, k1.1, k1.2, hl⟩
            unfold encL
            rw [hp]
            have h5' : crcOf (l.take (10 + k)) = numL (l.drop (10 + k)) := by
              exact Decidable.of_not_not h5
            rw [h5', f4 (10 + k) (by omega), List.take_of_length_le (l := l.drop (10 + k)) (by rw [List.length_drop]; omega)]
            exact List.take_append_drop _ _

/-- What is written is read. -/
theorem dec_enc {id : List Nat} {i s : Nat} (h : BOK id i s) : decE (encL id i s) = 0 ∧ decId (encL id i s) = id ∧ decI (encL id i s) = i ∧ decS (encL id i s) = s := by
  obtain ⟨⟨h1, h2, h3⟩, hi, _, hs⟩ := h
  obtain ⟨c, hc⟩ : ∃ c, crcOf (plainL id i s) = c := ⟨_, rfl⟩
  have hcl : c < 4294967296 := by rw [← hc]; exact crcOf_lt (plainL_bytes ⟨h1, h2, h3⟩)
  have hl := encL_len id i s
  have g0 : (encL id i s).getD 0 0 = 72 := by simp [encL, plainL, List.getD]
  have g1 : (encL id i s).getD 1 0 = id.length := by simp [encL, plainL, List.getD]
  have t10 : (encL id i s).take (10 + id.length) = plainL id i s := by
    unfold encL; rw [List.take_append_of_le_length (by rw [plainL_len]; omega), List.take_of_length_le (by rw [plainL_len]; omega)]
  have d10 : (encL id i s).drop (10 + id.length) = fourL c := by
    unfold encL; rw [hc, List.drop_append_of_le_length (by rw [plainL_len]; omega), List.drop_of_length_le (by rw [plainL_len]; omega)]; rfl
  have ee : encL id i s = [72, id.length] ++ (id ++ (fourL i ++ (fourL s ++ fourL c))) := by rw [← hc]; simp [encL, plainL]
  have d2 : (encL id i s).drop 2 = id ++ (fourL i ++ (fourL s ++ fourL c)) := by rw [ee]; rfl
  have dk : (encL id i s).drop (2 + id.length) = fourL i ++ (fourL s ++ fourL c) := by rw [← List.drop_drop, d2, List.drop_left]
  have d6 : (encL id i s).drop (6 + id.length) = fourL s ++ fourL c := by rw [show 6 + id.length = 2 + id.length + 4 by omega, ← List.drop_drop, dk]; rfl
  refine ⟨?_, ?_, ?_, ?_⟩
  · unfold decE
    rw [g0, g1, hl, t10, d10, hc, if_neg (by omega), if_neg (by omega), if_neg (by omega), if_neg (by omega), if_neg]
    have := numL_four hcl []
    rw [List.append_nil] at this
    rw [this]
    simp
  · unfold decId; rw [g1, d2, List.take_left]
  · unfold decI; rw [g1, dk]; exact numL_four (by omega) _
  · unfold decS; rw [g1, d6]; exact numL_four (by omega) _
theorem encL_inj {id id' : List Nat} {i i' s s' : Nat} (h : BOK id i s) (h' : BOK id' i' s') (e : encL id i s = encL id' i' s') : id = id' ∧ i = i' ∧ s = s' := by
  have a := dec_enc h
  have b := dec_enc h'
  rw [e] at a
  exact ⟨a.2.1.symm.trans b.2.1, a.2.2.1.symm.trans b.2.2.1, a.2.2.2.symm.trans b.2.2.2⟩
/-- Cut off. -/
theorem dec_cut {id : List Nat} {i s n : Nat} (h : IdOK id) (hn : n < 14 + id.length) : decE ((encL id i s).take n) = 8 := by
  have hl := encL_len id i s
  have hlt : ((encL id i s).take n).length = n := by rw [List.length_take]; omega
  unfold decE
  rw [hlt]
  by_cases c : n < 2
  · rw [if_pos c]
  · have g0 : ((encL id i s).take n).getD 0 0 = 72 := by simp [List.getD, List.getElem?_take, show 0 < n by omega, encL, plainL]
    have g1 : ((encL id i s).take n).getD 1 0 = id.length := by simp [List.getD, List.getElem?_take, show 1 < n by omega, encL, plainL]
    have := h.1
    have := h.2.1
    rw [if_neg c, g0, g1, if_neg (by omega), if_pos hn]
/-- With more behind it. -/
theorem dec_more {id m : List Nat} {i s : Nat} (h : IdOK id) (hm : m ≠ []) : decE (encL id i s ++ m) = 3 := by
  have hl := encL_len id i s
  have hm' : 0 < m.length := List.length_pos_iff.2 hm
  have g0 : (encL id i s ++ m).getD 0 0 = 72 := by simp [List.getD, encL, plainL]
  have g1 : (encL id i s ++ m).getD 1 0 = id.length := by simp [List.getD, encL, plainL]
  have := h.1
  have := h.2.1
  unfold decE
  rw [List.length_append, hl, g0, g1, if_neg (by omega), if_neg (by omega), if_neg (by omega), if_pos (by omega)]
/-- One that begins another is it. -/
theorem enc_prefix {id id' : List Nat} {i i' s s' : Nat} (h : BOK id i s) (h' : BOK id' i' s') (hp : encL id i s <+: encL id' i' s') : id = id' ∧ i = i' ∧ s = s' := by
  obtain ⟨r, hr⟩ := hp
  have g1 : (encL id i s ++ r).getD 1 0 = id.length := by simp [List.getD, encL, plainL]
  have g2 : (encL id' i' s').getD 1 0 = id'.length := by simp [List.getD, encL, plainL]
  rw [hr, g2] at g1
  have hl := congrArg List.length hr
  rw [List.length_append, encL_len, encL_len] at hl
  obtain rfl : r = [] := List.eq_nil_of_length_eq_zero (by omega)
  rw [List.append_nil] at hr
  exact encL_inj h h' hr
end Go.Proofs.YtpomdnglknbanaaGreat

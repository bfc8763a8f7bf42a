
/-
  The walk of the statements' own rising numbers; three rows of the call's own beside each other.
-/
import Derived.Test.YtlnagfmaiabhaaaCh
import Derived.Maps.AppendAt
set_option linter.unusedSimpArgs false
set_option linter.unusedVariables false
namespace Go.Proofs.Ytlnagfmaiabhaaa
open Go.RowKit

def ris (a : Int) : List Int → List Int
  | [] => []
  | x :: l => (a + (1 + within x 9)) :: ris (a + (1 + within x 9)) l
theorem ris_len (l : List Int) : ∀ a, (ris a l).length = l.length := by
  induction l with
  | nil => intro a; rfl
  | cons x l ih => intro a; simp [ris, ih]
theorem ris_get (l : List Int) : ∀ a k, k < l.length → (ris a l).getD k 0 = (if k = 0 then a else (ris a l).getD (k - 1) 0) + (1 + within (l.getD k 0) 9) := by
  induction l with
  | nil => intro a k h; simp at h
  | cons x l ih =>
    intro a k h
    match k with
    | 0 => simp [ris]
    | k + 1 =>
      have := ih (a + (1 + within x 9)) k (by simpa using h)
      simp only [ris, List.getD_cons_succ]
      rw [this]
      match k with
      | 0 => simp
      | k + 1 => simp
/-- The rising numbers out of l. -/
def rs (l : List Int) : List Int := ris 0 (l.take 64)
theorem rs_len (l : List Int) : (rs l).length = min 64 l.length := by simp [rs, ris_len]
theorem rs_get {l : List Int} {k : Nat} (h : k < (rs l).length) : (rs l).getD k 0 = prev (rs l) k + (1 + within (l.getD k 0) 9) := by
  have h2 := h
  rw [rs_len] at h2
  have e := ris_get (l.take 64) 0 k (by simp; omega)
  have g : (l.take 64).getD k 0 = l.getD k 0 := by simp [List.getD, List.getElem?_take, show k < 64 by omega]
  rw [g] at e
  exact e
theorem rs_bd (l : List Int) : ∀ k, k ≤ (rs l).length → 0 ≤ prev (rs l) k ∧ prev (rs l) k ≤ 9 * k := by
  intro k
  induction k with
  | zero => intro _; simp [prev]
  | succ k ih =>
    intro h
    have a := ih (by omega)
    have b := rs_get (l := l) (k := k) (by omega)
    have c := within_bd (l.getD k 0) (n := 9) (by omega)
    rw [prev_succ, b]
    omega
theorem rs_rises (l : List Int) : Rises (rs l) := by
  intro k h
  have a := rs_bd l k (by omega)
  have b := rs_get (l := l) (k := k) h
  have c := within_bd (l.getD k 0) (n := 9) (by omega)
  have d := rs_len l
  omega
theorem rs_facts (l : List Int) : ∃ (ks : List Int) (n : Nat), rs l = ks ∧ ks.length = n ∧ n ≤ 64 ∧ Rises ks ∧ ∀ k, k ≤ n → 0 ≤ prev ks k ∧ prev ks k ≤ 576 :=
  ⟨_, _, rfl, rfl, by rw [rs_len]; omega, rs_rises l, fun k hk => by have := rs_bd l k hk; have := rs_len l; omega⟩

/-- Two values do not share a block. -/
def Apart (v u : Value) : Prop := ∀ g, v.ownBlock = some g → u.ownBlock ≠ some g
theorem Apart.symm {v u : Value} (h : Apart v u) : Apart u v := fun g hu hv => h g hv hu
theorem apart_nil (u : Value) : Apart (.slice none 0 0) u := fun g h => by simp [Value.ownBlock] at h
/-- What is owned beside a row that is appended to stays owned, and apart. -/
theorem own_beside {w w' : World} {B e n : Nat} {v u u' : Value} {xs : List Value} {o : Obj} (h : w.ownsRow B e 1 v n xs) (ha : Apart u v) (hg : (w.alloc o).grownBy w' u.ownBlock)
    (hat : u'.ownBlock = u.ownBlock ∨ u'.ownBlock = some (w.heap.size + 1)) : w'.ownsRow B e 1 v n xs ∧ Apart u' v := by
  refine ⟨(h.alloc o).kept hg ?_, fun g hu hv => ?_⟩
  · rcases hv : v.ownBlock with _ | g
    · exact .inl rfl
    · exact .inr (fun hc => ha g hc.symm hv)
  · rcases hat with h1 | h1
    · exact ha g (h1 ▸ hu) hv
    · have := (h.lt g hv).2
      rw [h1] at hu
      injection hu with hu
      omega
end Go.Proofs.Ytlnagfmaiabhaaa

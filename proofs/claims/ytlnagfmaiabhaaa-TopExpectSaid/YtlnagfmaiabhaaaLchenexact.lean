
import Derived.Test.YtlnagfmaiabhaaaLa
set_option linter.unusedSimpArgs false
set_option linter.unusedVariables false
namespace Go.Proofs.Ytlnagfmaiabhaaa
open Go.RowKit

/-- A list by its places. -/
def tab (n : Nat) (f : Nat → Int) : List Int := (List.range n).map f
theorem tab_len (n : Nat) (f : Nat → Int) : (tab n f).length = n := by simp [tab]
theorem tab_get {n k : Nat} (f : Nat → Int) (h : k < n) : (tab n f).getD k 0 = f k := by simp [tab, List.getD, h]
theorem tab_btw {n : Nat} {f : Nat → Int} {a b : Int} (h : ∀ k, k < n → a ≤ f k ∧ f k ≤ b) : Btw a b (tab n f) := by
  intro x hx
  obtain ⟨k, hk, rfl⟩ := List.mem_map.1 hx
  exact h k (by simpa using hk)
theorem get_getD {l : List Int} {k : Nat} (h : k < l.length) : l[k] = l.getD k 0 := by simp [List.getD, h]
theorem devs_tab {e : Int} {f : Nat → Int} {ks : List Int} {n : Nat} (h : ks.length = n) : devs e (tab n f) ks = tab n (fun k => f k - e * ks.getD k 0) := by
  refine List.ext_getElem (by rw [devs_len (tab_len n f) h, tab_len]) fun k h1 h2 => ?_
  have hk : k < n := by rw [tab_len] at h2; exact h2
  have a := devs_get (e := e) (tab_len n f) h hk
  have b := tab_get (fun k => f k - e * ks.getD k 0) hk
  rw [tab_get f hk] at a
  have g1 : (devs e (tab n f) ks)[k] = (devs e (tab n f) ks).getD k 0 := get_getD h1
  have g2 : (tab n fun k => f k - e * ks.getD k 0)[k] = (tab n fun k => f k - e * ks.getD k 0).getD k 0 := get_getD h2
  rw [g1, g2, a, b]
theorem sum_tab_add (n : Nat) (f : Nat → Int) (b : Int) : sumI (tab n (fun k => f k + b)) = sumI (tab n f) + n * b := by
  unfold tab
  induction n with
  | zero => simp [sumI]
  | succ n ih =>
    rw [List.range_succ, List.map_append, List.map_append, sumI_append, sumI_append, ih]
    simp only [List.map_cons, List.map_nil, sumI, Int.natCast_add, Int.add_mul]
    omega

end Go.Proofs.Ytlnagfmaiabhaaa

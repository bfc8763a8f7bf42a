import Derived.Test.YtlnagfmaiabhaaaRis
set_option linter.unusedSimpArgs false
set_option linter.unusedVariables false
namespace Go.Proofs.Ytlnagfmaiabhaaa
open Go.RowKit

theorem avg_btw {l : List Int} {lo hi : Int} (h : Btw lo hi l) (h0 : 0 < l.length) : lo ≤ sumI l / l.length ∧ sumI l / l.length ≤ hi := by
  have a : (l.length : Int) * lo ≤ sumI l ∧ sumI l ≤ l.length * hi := by
    clear h0
    induction l with
    | nil => simp [sumI]
    | cons x l ih =>
      have a := ih h.tail
      have b := h.head
      simp only [sumI, List.length_cons, Int.natCast_add, Int.add_mul]
      omega
  constructor
  · rw [Int.le_ediv_iff_mul_le (by omega), Int.mul_comm]; exact a.1
  · exact Int.ediv_le_of_le_mul (a := sumI l) (b := hi) (c := l.length) (by omega) (by rw [Int.mul_comm]; exact a.2)
/-- How late each is. -/
def lates (M : Int) (l : List Int) (n : Nat) : List Int := (List.range n).map fun k => if k < l.length then within (l.getD k 0) M else 0
theorem lates_len (M : Int) (l : List Int) (n : Nat) : (lates M l n).length = n := by simp [lates]
theorem lates_get (M : Int) (l : List Int) {n k : Nat} (h : k < n) : (lates M l n).getD k 0 = if k < l.length then within (l.getD k 0) M else 0 := by
  simp [lates, List.getD, h]
theorem lates_btw {M : Int} (h : 0 < M) (l : List Int) (n : Nat) : Btw 0 (M - 1) (lates M l n) := by
  intro x hx
  obtain ⟨k, _, rfl⟩ := List.mem_map.1 hx
  split
  · have := within_bd (l.getD k 0) h; omega
  · omega
/-- Two slices written out, one behind the other. -/
theorem lit_fst (w : World) (T T' : TypeId) (l m : List Int) (n : Nat) (hn : l.length = n) : Row ((w.alloc (.cells (l.map (Value.int .i64)).toArray T)).alloc (.cells (m.map (Value.int .i64)).toArray T')) (some ⟨w.heap.size, 0, none⟩) n l :=
  (Row.lit w T l n hn).below ((Below.refl _ _).alloc (Nat.le_refl _) _)
theorem lit_snd (w : World) (T T' : TypeId) (l m : List Int) (n : Nat) (hn : m.length = n) : Row ((w.alloc (.cells (l.map (Value.int .i64)).toArray T)).alloc (.cells (m.map (Value.int .i64)).toArray T')) (some ⟨w.heap.size + 1, 0, none⟩) n m := by
  have := Row.lit (w.alloc (.cells (l.map (Value.int .i64)).toArray T)) T' m n hn
  rwa [World.size_alloc] at this
end Go.Proofs.Ytlnagfmaiabhaaa

/-
  peers.Hear.
-/
import Derived.Test.YtpomdnglknbanaaAe
import Derived.Test.YtpomdnglknbanaaPu2
set_option linter.unusedSimpArgs false
set_option linter.unusedVariables false
namespace Go.Proofs.Ytpomdnglknbanaa
open Go.RowKit

/-- A row of peers with one of them in view. -/
def TabF (w : World) (base g n c P : Nat) (X1 u X2 : List Value) : Prop := w.ownsRow base 56 7 (.slice (some ⟨g, 0, none⟩) n c) n (X1 ++ u ++ X2) ∧ X1.length = P * 7 ∧ u.length = 7
theorem TabF.heap {w : World} {base g n c P : Nat} {X1 u X2 : List Value} (h : TabF w base g n c P X1 u X2) : ∃ cur, w.heap[g]? = some (.cells cur 56 (0, 0)) ∧ base ≤ g ∧ n ≤ c ∧ c ≤ maxLen ∧ cur.size = c * 7 ∧ cur.toList.take (n * 7) = X1 ++ u ++ X2 := by
  obtain ⟨h1, h2, h3⟩ := h
  rcases h1.2 with ⟨h, _⟩ | ⟨g', c', cur, h, hbg, hg, hnc, hcm, hcs, htk⟩
  · cases h
  simp only [Value.slice.injEq, Option.some.injEq, Addr.mk.injEq, and_true, true_and] at h
  obtain ⟨rfl, rfl⟩ := h
  exact ⟨cur, hg, hbg, hnc, hcm, hcs, htk⟩
theorem TabF.lt {w : World} {base g n c P : Nat} {X1 u X2 : List Value} (h : TabF w base g n c P X1 u X2) : g < w.heap.size ∧ base ≤ g := by
  obtain ⟨cur, hg, hb, _⟩ := h.heap
  exact ⟨(Array.getElem?_eq_some_iff.1 hg).1, hb⟩
theorem TabF.cell {w : World} {base g n c P : Nat} {X1 u X2 : List Value} (h : TabF w base g n c P X1 u X2) {i : Nat} {v : Value} (hi : u[i]? = some v) : w.cell? ⟨g, P * 7 + i, none⟩ = some v := by
  have hl := h.2.1
  have := h.1.cells (g := g) rfl (P * 7 + i) v (by
    have hil := (List.getElem?_eq_some_iff.1 hi).1
    rw [List.append_assoc, List.getElem?_append_right (by omega), hl, show P * 7 + i - P * 7 = i by omega, List.getElem?_append_left hil]; exact hi)
  rw [Go.WideShapes.add_plain, Nat.zero_add] at this
  exact this
theorem TabF.frozen {w : World} {base g n c P : Nat} {X1 u X2 : List Value} (h : TabF w base g n c P X1 u X2) (o : Nat) : w.frozen? ⟨g, o, none⟩ = false := by
  obtain ⟨cur, hg, _⟩ := h.heap
  exact (block_cells hg).2 o
theorem TabF.below {w w' : World} {base g n c P : Nat} {X1 u X2 : List Value} (h : TabF w base g n c P X1 u X2) (hb : Below w.heap.size w w') : TabF w' base g n c P X1 u X2 := ⟨own_below h.1 hb, h.2⟩
theorem TabF.set {w : World} {base g n c P : Nat} {X1 u X2 : List Value} (h : TabF w base g n c P X1 u X2) (i : Nat) (hi : i < 7) (v : Value) : TabF (w.setCell ⟨g, P * 7 + i, none⟩ v) base g n c P X1 (u.set i v) X2 := by
  obtain ⟨cur, hg, hb, hnc, hcm, hcs, htk⟩ := h.heap
  obtain ⟨h1, h2, h3⟩ := h
  have hl := h1.1
  refine ⟨⟨by simpa using hl, .inr ⟨g, c, cur.setIfInBounds (P * 7 + i) v, rfl, hb, by simp [World.setCell, Array.getElem?_modify, hg], hnc, hcm, by simpa using hcs, ?_⟩⟩, h2, by simpa using h3⟩
  simp only [List.length_append] at hl
  rw [Array.toList_setIfInBounds, List.take_set, htk]
  rw [List.append_assoc, List.set_append_right _ _ (by omega), h2, show P * 7 + i - P * 7 = i by omega, List.set_append_left _ _ (by omega), List.append_assoc]
theorem Tab.focus {w : World} {base n c P : Nat} {A : Option Addr} {L : List Peer} (h : Tab w base A n c L) (hP : P < L.length) : ∃ g X1 u X2, A = some ⟨g, 0, none⟩ ∧ TabF w base g n c P X1 u X2 ∧ PVs w base (L.take P) X1 ∧ PV w base (L.getD P default) u ∧ PVs w base (L.drop (P + 1)) X2 := by
  obtain ⟨xs, h1, h2⟩ := h
  have hxl := h1.1
  have hpl := h2.len
  obtain ⟨g, cap, hv, hcap, _⟩ := h1.form (by omega)
  simp only [Value.slice.injEq, true_and] at hv
  obtain ⟨rfl, rfl⟩ := hv
  have h3 := h2.drop P
  rw [List.drop_eq_getElem_cons hP] at h3
  obtain ⟨u, r, e, hu, hr⟩ := h3
  have hul := hu.len
  have er : r = xs.drop ((P + 1) * 7) := by
    have := congrArg (List.drop 7) e
    rw [List.drop_drop, List.drop_append, List.drop_of_length_le (l := u) (by omega), hul, Nat.sub_self, List.drop_zero, List.nil_append] at this
    rw [← this]; congr 1; omega
  refine ⟨g, xs.take (P * 7), u, xs.drop ((P + 1) * 7), rfl, ⟨?_, by rw [List.length_take]; omega, hul⟩, h2.take P, by simpa [List.getD_eq_getElem?_getD, hP] using hu, h2.drop (P + 1)⟩
  rw [List.append_assoc, ← er, ← e, List.take_append_drop]
  exact h1
theorem Tab.unfocus {w : World} {base g n c P : Nat} {X1 u X2 : List Value} {L : List Peer} {p : Peer} (h : TabF w base g n c P X1 u X2) (h1 : PVs w base (L.take P) X1) (hu : PV w base p u) (h2 : PVs w base (L.drop (P + 1)) X2) (hP : P < L.length) : Tab w base (some ⟨g, 0, none⟩) n c (L.set P p) := by
  refine ⟨_, h.1, ?_⟩
  have e : L.set P p = L.take P ++ p :: L.drop (P + 1) := by
    rw [List.set_eq_take_append_cons_drop, if_pos hP]
  rw [e, List.append_assoc]
  exact h1.app (PVs.app (L := [p]) (PVs.singleton hu) h2)
/-- A set in the table keeps the windows' rows. -/
theorem own_tset {w : World} {base base' g n c P n2 : Nat} {X1 u X2 : List Value} {v : Value} {xs : List Value} (h : TabF w base g n c P X1 u X2) (ho : w.ownsRow base' 3 1 v n2 xs) (o : Nat) (x : Value) : (w.setCell ⟨g, o, none⟩ x).ownsRow base' 3 1 v n2 xs := by
  obtain ⟨cur, hg, _⟩ := h.heap
  exact own_other ho hg (by decide) (fun b _ hne => Below.heap_setCell _ _ _ _ hne)
end Go.Proofs.Ytpomdnglknbanaa

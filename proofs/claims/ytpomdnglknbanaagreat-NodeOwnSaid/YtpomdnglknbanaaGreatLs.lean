/-
  Slices of integers as lists: what stands in memory, and how it stays.
-/
import Derived.Test.YtpomdnglknbanaaGreatP0
import Derived.Test.YtpomdnglknbanaaGreatQT
import Derived.Deep.AppendLies
import Derived.OwnWalk
import Derived.OpenShut
import Derived.Test.YtpomdnglknbanaaGreatRows
import Derived.Lib.Hide
set_option linter.unusedSimpArgs false
set_option linter.unusedVariables false
namespace Go.Proofs.YtpomdnglknbanaaGreat
open Go Go.RowKit

/-- The slice with address A and n elements reads as l. -/
def Row (w : World) (A : Option Addr) (n : Nat) (l : List Int) : Prop :=
  l.length = n ∧ (0 < n → ∃ b off, A = some ⟨b, off, none⟩ ∧ b < w.heap.size ∧ ∀ k, k < n → w.cell? ⟨b, off + k, none⟩ = some (.int .i64 (l.getD k 0)))

section
variable {w w' : World} {A : Option Addr} {n : Nat} {l : List Int}
theorem Row.len (h : Row w A n l) : l.length = n := h.1
theorem Row.below (h : Row w A n l) (hb : Below w.heap.size w w') : Row w' A n l :=
  ⟨h.1, fun hn => by
    obtain ⟨b, off, e, lt, hc⟩ := h.2 hn
    exact ⟨b, off, e, Nat.lt_of_lt_of_le lt hb.size, fun k hk => (hb.cell (p := ⟨b, off + k, none⟩) lt).trans (hc k hk)⟩⟩
theorem Row.nil : Row w A 0 [] := ⟨rfl, fun h => absurd h (by omega)⟩
theorem Row.at (h : Row w A n l) (hn : 0 < n) : ∃ b off, A = some ⟨b, off, none⟩ ∧ b < w.heap.size ∧ ∀ k, k < n → w.cell? ⟨b, off + k, none⟩ = some (.int .i64 (l.getD k 0)) := h.2 hn
theorem Row.each (h : Row w A n l) : ∀ k, k < n → ∃ b off, A = some ⟨b, off, none⟩ ∧ b < w.heap.size ∧ w.cell? ⟨b, off + k, none⟩ = some (.int .i64 (l.getD k 0)) := fun k hk => by
  obtain ⟨b, off, e, lt, hc⟩ := h.2 (by omega)
  exact ⟨b, off, e, lt, hc k hk⟩
theorem name_num {p : Addr} {y : Int} (h : w.cell? p = some (.int .i64 y)) : ∃ x, x = y ∧ w.cell? p = some (.int .i64 x) := ⟨y, rfl, h⟩
/-- The first k elements. -/
theorem Row.take (h : Row w A n l) {k : Nat} (hk : k ≤ n) : Row w A k (l.take k) := by
  have hl := h.1
  refine ⟨by simp; omega, fun hp => ?_⟩
  obtain ⟨b, off, e, lt, hc⟩ := h.2 (by omega)
  refine ⟨b, off, e, lt, fun j hj => (hc j (by omega)).trans ?_⟩
  have : (l.take k).getD j 0 = l.getD j 0 := by simp [List.getD, List.getElem?_take, hj]
  rw [this]
/-- A slice written out. -/
theorem Row.lit (w : World) (T : TypeId) (l : List Int) (n : Nat) (hn : l.length = n) : Row (w.alloc (.cells (l.map (Value.int .i64)).toArray T)) (some ⟨w.heap.size, 0, none⟩) n l := by
  refine ⟨hn, fun _ => ⟨w.heap.size, 0, rfl, by simp, fun k hk => ?_⟩⟩
  rw [World.cell?_alloc_new]
  simp [List.getD, show k < l.length by omega]
/-- What an owned row reads as. -/
theorem Row.of_own {base e c : Nat} (h : w.ownsRow base e 1 (.slice A n c) n (l.map (Value.int .i64))) : Row w A n l := by
  have h1 := h.1
  simp at h1
  refine ⟨h1, fun hn => ?_⟩
  obtain ⟨g, cap, hv, _, hlt⟩ := h.form hn
  have hA : A = some ⟨g, 0, none⟩ := by injection hv
  subst hA
  refine ⟨g, 0, rfl, hlt, fun k hk => ?_⟩
  have := h.cells (g := g) rfl k (.int .i64 (l.getD k 0)) (by
    rw [List.getElem?_map, show l[k]? = some (l.getD k 0) by simp [List.getD, show k < l.length by omega]]; rfl)
  rw [← Go.WideShapes.add_plain]
  exact this
end

theorem own_form {w : World} {base e size n : Nat} {v : Value} {xs : List Value} (h : w.ownsRow base e size v n xs) : ∃ A c, v = .slice A n c ∧ n ≤ c ∧ c ≤ maxLen ∧ (A = none → n = 0 ∧ c = 0) := by
  rcases h.2 with ⟨e, h1⟩ | ⟨g, cap, cur, e, _, _, h1, h2, _⟩
  · exact ⟨none, 0, by rw [e, h1], by omega, Nat.zero_le _, fun _ => ⟨h1, rfl⟩⟩
  · exact ⟨_, _, e, h1, h2, fun h => (by cases h)⟩
theorem own_below {w w' : World} {base e size n : Nat} {v : Value} {xs : List Value} (h : w.ownsRow base e size v n xs) (hb : Below w.heap.size w w') : w'.ownsRow base e size v n xs := by
  refine ⟨h.1, ?_⟩
  rcases h.2 with h1 | ⟨g, cap, cur, e, h1, h2, h3⟩
  · exact .inl h1
  · exact .inr ⟨g, cap, cur, e, h1, (hb.block g (Array.getElem?_eq_some_iff.1 h2).1).trans h2, h3⟩
/-- A slice of integers that came in. -/
def InRow (w : World) (a : Option Addr) (len cap : Nat) (l : List Int) : Prop := Row w a len l ∧ len ≤ cap ∧ cap ≤ maxLen ∧ (a = none → len = 0 ∧ cap = 0)
theorem InRow.below {w w' : World} {a : Option Addr} {len cap : Nat} {l : List Int} (h : InRow w a len cap l) (hb : Below w.heap.size w w') : InRow w' a len cap l := ⟨h.1.below hb, h.2⟩
theorem inRow_of {w : World} {a : Option Addr} {len cap : Nat} {zs : List Int}
    (h : (a = none ∧ len = 0 ∧ cap = 0 ∧ zs = []) ∨ ∃ x, a = some x ∧ len ≤ cap ∧ cap ≤ maxLen ∧ zs.length = cap ∧ (∀ i, i < zs.length → w.cell? (x.add i) = some (.int .i64 (zs.getD i 0)))) : InRow w a len cap (zs.take len) := by
  rcases h with ⟨rfl, rfl, rfl, rfl⟩ | ⟨x, rfl, hl, hm, hz, hc⟩
  · exact ⟨Row.nil, Nat.le_refl _, Nat.zero_le _, fun _ => ⟨rfl, rfl⟩⟩
  · refine ⟨?_, hl, hm, fun h => (by cases h)⟩
    refine Row.take (n := zs.length) ⟨rfl, fun hp => ?_⟩ (by omega)
    obtain ⟨b, off, rfl, hc'⟩ := ints_at hc hp
    exact ⟨b, off, rfl, World.block_lt_of_cell? w _ (hc' 0 hp), hc'⟩

theorem app1_cells (w : World) (x : Value) (T : TypeId) : ∀ j u, [x][j]? = some u → (w.alloc (.cells #[x] T)).cell? ((⟨w.heap.size, 0, none⟩ : Addr).add j) = some u := by
  intro j u hj
  match j, hj with
  | 0, hj => simp at hj; subst hj; rw [Go.WideShapes.add_plain, World.cell?_alloc_new]; simp
theorem app1_one (k : IntKind) (y : Int) : ∀ u ∈ [Value.int k y], u.oneCell' = true := by intro u hu; simp at hu; subst hu; rfl
theorem own_snoc {w : World} {base e n : Nat} {v : Value} {l : List Int} {y : Int} (h : w.ownsRow base e 1 v n (l.map (Value.int .i64) ++ [Value.int .i64 y])) : w.ownsRow base e 1 v n ((l ++ [y]).map (Value.int .i64)) := by simpa using h
theorem ints_one (l : List Int) : ∀ u ∈ l.map (Value.int .i64), u.oneCell' = true := by
  intro u hu
  obtain ⟨x, _, rfl⟩ := List.mem_map.1 hu
  rfl
theorem Row.cellsAt {w : World} {ad : Addr} {n : Nat} {l : List Int} (h : Row w (some ad) n l) (o : Obj) : ∀ j u, (l.map (Value.int .i64))[j]? = some u → (w.alloc o).cell? (ad.add j) = some u := by
  intro j u hu
  rw [List.getElem?_map] at hu
  rcases hx : l[j]? with _ | x
  · rw [hx] at hu; cases hu
  · rw [hx] at hu
    have hj : j < l.length := (List.getElem?_eq_some_iff.1 hx).1
    obtain ⟨b, off, e, lt, hc⟩ := h.at (by have := h.1; omega)
    injection e with e
    subst e
    rw [Go.WideShapes.add_plain, World.cell?_alloc_lt w o ⟨b, off + j, none⟩ lt, hc j (by have := h.1; omega)]
    have : l.getD j 0 = x := by simp [List.getD, hx]
    rw [this]
    exact hu
theorem Row.cells0 {w : World} {ad : Addr} {n : Nat} {l : List Int} (h : Row w (some ad) n l) : ∀ j u, (l.map (Value.int .i64))[j]? = some u → w.cell? (ad.add j) = some u := by
  intro j u hu
  rw [List.getElem?_map] at hu
  rcases hx : l[j]? with _ | x
  · rw [hx] at hu; cases hu
  · rw [hx] at hu
    have hj : j < l.length := (List.getElem?_eq_some_iff.1 hx).1
    obtain ⟨b, off, e, lt, hc⟩ := h.at (by have := h.1; omega)
    injection e with e
    subst e
    rw [Go.WideShapes.add_plain, hc j (by have := h.1; omega)]
    have : l.getD j 0 = x := by simp [List.getD, hx]
    rw [this]
    exact hu
theorem cells_below {w w' : World} {A : Option Addr} {n : Nat} {l : List Int} (h : ∀ k, k < n → ∃ b off, A = some ⟨b, off, none⟩ ∧ b < w.heap.size ∧ w.cell? ⟨b, off + k, none⟩ = some (.int .i64 (l.getD k 0))) (hb : Below w.heap.size w w') :
    ∀ k, k < n → ∃ b off, A = some ⟨b, off, none⟩ ∧ b < w'.heap.size ∧ w'.cell? ⟨b, off + k, none⟩ = some (.int .i64 (l.getD k 0)) := fun k hk => by
  obtain ⟨b, off, e, lt, hc⟩ := h k hk
  exact ⟨b, off, e, Nat.lt_of_lt_of_le lt hb.size, (hb.cell (p := ⟨b, off + k, none⟩) lt).trans hc⟩
/-- The element type's row of the table. -/
theorem info_int : (Tryz.prog.info? 3).map (fun i => (i.zero, i.size, i.bytes)) = some (some (.int .i64 0), 1, 8) := by kernel_rfl
end Go.Proofs.YtpomdnglknbanaaGreat

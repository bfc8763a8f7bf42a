/-
  slices.Insert of one element into a row of the call's own.
-/
import Derived.Test.YtpomdnglknbanaaCl
import Derived.Test.YtpomdnglknbanaaVr
import Derived.Test.YtpomdnglknbanaaIs
import Derived.Test.YtpomdnglknbanaaAr
import Derived.Test.YtpomdnglknbanaaFl
import Derived.Test.YtpomdnglknbanaaShelfI
set_option linter.unusedSimpArgs false
set_option linter.unusedVariables false
namespace Go.Proofs.Ytpomdnglknbanaa
open Go.RowKit Go.Lib
def ins (i : Nat) (x : Int) (l : List Int) : List Int := l.take i ++ x :: l.drop i
theorem ins_len (i : Nat) (x : Int) (l : List Int) (h : i ≤ l.length) : (ins i x l).length = l.length + 1 := by
  simp [ins]; omega
theorem Below.cellsSet {B g : Nat} {a : World} (hg : B ≤ g) : ∀ (vs : List Value) (o : Nat) (w : World), Below B a w → Below B a (w.setCells g o vs)
  | [], _, _, h => h
  | v :: r, o, w, h => by
    rw [World.setCells]
    exact Below.cellsSet hg r (o + 1) _ (h.setCell hg v)
theorem cellsSet_size (g : Nat) : ∀ (vs : List Value) (o : Nat) (w : World), (w.setCells g o vs).heap.size = w.heap.size
  | [], _, _ => rfl
  | v :: r, o, w => by
    rw [World.setCells, cellsSet_size g r]
    simp
theorem row_ins3 {w : World} {g i n : Nat} {l : List Int} {x : Int} (hl : l.length = n) (hi : i ≤ n) (hg : g < w.heap.size) (h0 : ∀ k, k < i → w.cell? ⟨g, k, none⟩ = some (.int .i64 (l.getD k 0)))
    (h1 : w.cell? ⟨g, i, none⟩ = some (.int .i64 x)) (h2 : ∀ j, j < n - i → w.cell? ⟨g, i + 1 + j, none⟩ = some (.int .i64 (l.getD (i + j) 0))) : Row w (some ⟨g, 0, none⟩) (n + 1) (ins i x l) := by
  refine ⟨by rw [ins_len _ _ _ (by omega), hl], fun _ => ⟨g, 0, rfl, hg, fun k hk => ?_⟩⟩
  rw [Nat.zero_add]
  have hti : (l.take i).length = i := by rw [List.length_take]; omega
  rcases Nat.lt_trichotomy k i with h | h | h
  · rw [h0 k h]
    simp [ins, List.getD, List.getElem?_append, h, hti, List.getElem?_take]
    rw [List.getElem?_eq_getElem (by omega)]; rfl
  · subst h
    rw [h1]
    simp [ins, List.getD, List.getElem?_append, hti]
  · obtain ⟨j, rfl⟩ : ∃ j, k = i + 1 + j := ⟨k - (i + 1), by omega⟩
    rw [h2 j (by omega)]
    have : ¬ i + 1 + j < i := by omega
    simp [ins, List.getD, List.getElem?_append, hti, this, show i + 1 + j - i = j + 1 by omega]

theorem cur_cells {cur : Array Value} {n c : Nat} {l : List Int} (hl : l.length = n) (hn : n ≤ c) (hc : cur.size = c * 1) (h : cur.toList.take (n * 1) = l.map (Value.int .i64)) : ∀ k, k < n → cur[k]? = some (.int .i64 (l.getD k 0)) := fun k hk => by
  have h1 : (cur.toList.take (n * 1))[k]? = some (.int .i64 (l.getD k 0)) := by
    rw [h]
    simp [List.getD, List.getElem?_eq_getElem (show k < l.length by omega)]
  rw [List.getElem?_take] at h1
  rw [if_pos (by omega)] at h1
  simpa using h1

theorem dropped {l : List Int} {n i : Nat} (hl : l.length = n) : ∀ j (hj : j < ((l.map (Value.int .i64)).drop i).length), ((l.map (Value.int .i64)).drop i)[j] = .int .i64 (l.getD (i + j) 0) := fun j hj => by
  have hj' : i + j < l.length := by simp at hj; omega
  simp [List.getD, List.getElem?_eq_getElem hj']
theorem ins_shift {w : World} {g i n : Nat} {l : List Int} {x : Int} (hl : l.length = n) (hi : i ≤ n) (hg : g < w.heap.size) (h0 : ∀ k, k < i → w.cell? ⟨g, k, none⟩ = some (.int .i64 (l.getD k 0)))
    (hs : ∀ k, k < n + 1 → (w.cell? ⟨g, k, none⟩).isSome = true) : Row ((w.setCells g (i + 1) ((l.map (Value.int .i64)).drop i)).setCells g i [.int .i64 x]) (some ⟨g, 0, none⟩) (n + 1) (ins i x l) := by
  have hdl : ((l.map (Value.int .i64)).drop i).length = n - i := by simp [hl]
  have hin : ∀ j, j < ((l.map (Value.int .i64)).drop i).length → (w.cell? ⟨g, i + 1 + j, none⟩).isSome = true := fun j hj => hs _ (by omega)
  refine row_ins3 hl hi (by rw [cellsSet_size, cellsSet_size]; exact hg) (fun k hk => ?_) ?_ (fun j hj => ?_)
  · rw [World.cell?_setCells_out _ _ _ _ _ (fun _ _ => .inl hk), World.cell?_setCells_out _ _ _ _ _ (fun _ _ => .inl (by show k < i + 1; omega))]
    exact h0 k hk
  · have := World.cell?_setCells_in g [Value.int .i64 x] i (w.setCells g (i + 1) ((l.map (Value.int .i64)).drop i)) (fun j hj => by
      have : j = 0 := by simpa using hj
      subst this
      exact isSome_setCells g _ _ w hin _ (hs _ (by omega))) 0 (by simp)
    simpa using this
  · rw [World.cell?_setCells_out _ _ _ _ _ (fun _ _ => .inr (by show i + 1 ≤ i + 1 + j; omega)), World.cell?_setCells_in g _ _ w hin j (by omega), dropped hl]
theorem ins_grow {w : World} {g i n : Nat} {l : List Int} {x : Int} (hl : l.length = n) (hi : i ≤ n) (hg : g < w.heap.size) (h0 : ∀ k, k < i → w.cell? ⟨g, k, none⟩ = some (.int .i64 (l.getD k 0)))
    (hs : ∀ k, k < n + 1 → (w.cell? ⟨g, k, none⟩).isSome = true) : Row ((w.setCells g i [.int .i64 x]).drew.setCells g (i + 1) ((l.map (Value.int .i64)).drop i)) (some ⟨g, 0, none⟩) (n + 1) (ins i x l) := by
  have hdl : ((l.map (Value.int .i64)).drop i).length = n - i := by simp [hl]
  have hin0 : ∀ j, j < ([Value.int .i64 x] : List Value).length → (w.cell? ⟨g, i + j, none⟩).isSome = true := fun j hj => by
    have : j = 0 := by simpa using hj
    subst this
    exact hs _ (by omega)
  have hin : ∀ j, j < ((l.map (Value.int .i64)).drop i).length → ((w.setCells g i [.int .i64 x]).drew.cell? ⟨g, i + 1 + j, none⟩).isSome = true := fun j hj => isSome_setCells g _ _ w hin0 _ (hs _ (by omega))
  have cd : ∀ (w : World) a, w.drew.cell? a = w.cell? a := fun _ _ => rfl
  refine row_ins3 hl hi (by rw [cellsSet_size]; show g < (w.setCells g i [.int .i64 x]).heap.size; rw [cellsSet_size]; exact hg) (fun k hk => ?_) ?_ (fun j hj => ?_)
  · rw [World.cell?_setCells_out _ _ _ _ _ (fun _ _ => .inl (by show k < i + 1; omega)), cd, World.cell?_setCells_out _ _ _ _ _ (fun _ _ => .inl hk)]
    exact h0 k hk
  · rw [World.cell?_setCells_out _ _ _ _ _ (fun _ _ => .inl (by show i < i + 1; omega)), cd]
    have := World.cell?_setCells_in g [Value.int .i64 x] i w hin0 0 (by simp)
    simpa using this
  · rw [World.cell?_setCells_in g _ _ _ hin j (by omega), dropped hl]

set_option maxHeartbeats 4000000 in
theorem insert_wr (A : Option Addr) (n c i : Nat) (l : List Int) (x : Int) (B base : Nat) (T : TypeId) (w : World) (own : w.ownsRow base 3 1 (.slice A n c) n (l.map (Value.int .i64)))
    (hB : w.heap[B]? = some (.cells #[.int .i64 x] T (0, 0))) (hne : ∀ k, (Value.slice A n c).ownBlock = some k → k ≠ B) (hi : i ≤ n) (hn : n ≤ 1000) (hbase : base ≤ w.heap.size) :
    Calls Try.prog 131 #[.slice A n c, .int .i64 i, .slice (some ⟨B, 0, none⟩) 1 1] w fun e w' => ∃ A2 c2, e = .returned (.slice A2 (n + 1) c2) ∧ Fresh w' base A2 (n + 1) c2 (ins i x l) ∧ Below base w w' := by
  have hl : l.length = n := by have := own.1; simpa using this
  obtain ⟨hBc, hBf⟩ := block_cells hB
  have hvs : ∀ j v, ([Value.int .i64 x] : List Value)[j]? = some v → w.cell? ⟨B, 0 + j, none⟩ = some v := fun j v hj => by
    rw [hBc]; simpa using hj
  have h1v : ∀ v ∈ ([Value.int .i64 x] : List Value), v.oneCell' = true := fun v hv => by
    rcases List.mem_singleton.1 hv with rfl
    rfl
  have hsh : w.shape? B = some (T, 1) := by simp [World.shape?, hB]
  have one := ints_one l
  have hml : (l.map (Value.int .i64)).length = n := by simp [hl]
  rcases own.2 with ⟨h, h0⟩ | ⟨g, c', cur, h, hbg, hg, hnc, hcm, hcs, htk⟩
  · injection h with hA hn' hc'
    subst hA
    have hi0 : i = 0 := by omega
    have hin : i = n := by omega
    subst hin
    have hic : i ≤ c := by omega
    have hroom : c < i + 1 := by omega
    clear hc' hn' h0
    refine (Any2.slices_Insert_int_end_grow Try.insertI none i c B 0 1 1 (l.map (Value.int .i64)) [.int .i64 x] w (by omega) hic hroom (by omega) hml rfl (fun _ => hi0) (fun a h => by cases h) hvs h1v).mono ?_
    rintro e w' ⟨rfl, rfl⟩
    refine ⟨_, _, rfl, ⟨row_ins3 hl hi (by simp) (fun k hk => ?_) ?_ (fun j hj => by omega), ?wr, ?le, ?mx⟩, (Below.drew (Below.refl base w)).alloc hbase _⟩
    · rw [World.cell?_alloc_at (w := w.drew) _ _ w.heap.size _ rfl]
      simp [Array.getElem?_append, List.getElem?_append, hl, hk, show k < i + 1 by omega, List.getD, List.getElem?_eq_getElem (show k < l.length by omega)]
    · rw [World.cell?_alloc_at (w := w.drew) _ _ w.heap.size _ rfl]
      simp [Array.getElem?_append, List.getElem?_append, hl]
    case wr => exact wr_alloc w.drew _ _ (by have := grownCap_ge w (i + 1) c (Try.insertI_ren.t 3); simp [Builtin.zeroCells, Value.cells, hl]; omega) hbase
    case le => exact grownCap_ge _ _ _ _
    case mx => exact grownCap_le_maxLen _ _ _ _ (by unfold maxLen; omega)
  · injection h with hA _ hc
    subst hA hc
    have cc := cur_cells hl hnc hcs htk
    obtain ⟨hgc, hgf⟩ := block_cells hg
    have hgn : g ≠ B := hne g rfl
    have hcs' : ∀ j v, (l.map (Value.int .i64))[j]? = some v → w.cell? ⟨g, 0 + j, none⟩ = some v := fun j v hj => by
      have hjn : j < n := by have := (List.getElem?_eq_some_iff.1 hj).1; omega
      rw [hgc, Nat.zero_add, cc j hjn, ← hj]
      simp [List.getD, List.getElem?_eq_getElem (show j < l.length by omega)]
    have hgl : g < w.heap.size := lt_of_some hg
    have hsp : c < n + 1 ∨ n + 1 ≤ c := by omega
    have hz : ∀ k, k < c → (w.cell? ⟨g, k, none⟩).isSome = true := fun k hk => by rw [hgc, Array.getElem?_eq_getElem (by omega)]; rfl
    rcases Nat.eq_or_lt_of_le hi with h | h
    · subst h
      rcases hsp with hsp | hsp
      · refine (Any2.slices_Insert_int_end_grow Try.insertI (some ⟨g, 0, none⟩) i c B 0 1 1 (l.map (Value.int .i64)) [.int .i64 x] w (by omega) hnc hsp (by omega) hml rfl (fun h => by cases h) (fun a ha => by injection ha with ha; subst ha; intro j v hj; rw [Addr.add_lit]; exact hcs' j v hj) hvs h1v).mono ?_
        rintro e w' ⟨rfl, rfl⟩
        refine ⟨_, _, rfl, ⟨row_ins3 hl hi (by simp) (fun k hk => ?_) ?_ (fun j hj => by omega), ?wr, ?le, ?mx⟩, (Below.drew (Below.refl base w)).alloc hbase _⟩
        · rw [World.cell?_alloc_at (w := w.drew) _ _ w.heap.size _ rfl]
          simp [Array.getElem?_append, List.getElem?_append, hl, hk, show k < i + 1 by omega, List.getD, List.getElem?_eq_getElem (show k < l.length by omega)]
        · rw [World.cell?_alloc_at (w := w.drew) _ _ w.heap.size _ rfl]
          simp [Array.getElem?_append, List.getElem?_append, hl]
        case wr => exact wr_alloc w.drew _ _ (by have := grownCap_ge w (i + 1) c (Try.insertI_ren.t 3); simp [Builtin.zeroCells, Value.cells, hl]; omega) hbase
        case le => exact grownCap_ge _ _ _ _
        case mx => exact grownCap_le_maxLen _ _ _ _ (by unfold maxLen; omega)
      · refine (Any2.slices_Insert_int_end_room Try.insertI g 0 i c B 0 1 1 [.int .i64 x] w (by omega) hsp (by unfold maxLen at hcm; omega) rfl (fun j hj => by rw [Nat.zero_add]; exact hz _ (by omega)) (fun j hj => hgf _) hvs h1v).mono ?_
        rintro e w' ⟨rfl, rfl⟩
        refine ⟨_, _, rfl, ⟨?_, (own_wr own).setCells _ _ _, hsp, hcm⟩, Below.cellsSet hbg _ _ _ (Below.refl base w)⟩
        rw [Nat.zero_add]
        refine row_ins3 hl hi (by rw [cellsSet_size]; exact hgl) (fun k hk => ?_) ?_ (fun j hj => by omega)
        · rw [World.cell?_setCells_out _ _ _ _ _ (fun _ _ => .inl hk), hgc]
          exact cc k hk
        · have := World.cell?_setCells_in g [Value.int .i64 x] i w (fun j hj => by
            have : j = 0 := by simpa using hj
            subst this
            exact hz _ (by omega)) 0 (by simp)
          simpa using this
    · rcases hsp with hsp | hsp
      · refine (Any2.slices_Insert_int_grow Try.insertI g 0 n c i B 0 1 1 (l.map (Value.int .i64)) [.int .i64 x] w h (by omega) hnc hsp (by omega) hml rfl hcs' hvs one h1v).mono ?_
        rintro e w' ⟨rfl, rfl⟩
        refine ⟨_, _, rfl, ⟨?_, Wr.setCells _ _ _ (Wr.drew (Wr.setCells _ _ _ (Wr.drew (wr_alloc w _ _ (by have := grownCap_ge w (n + 1) c (Try.insertI_ren.t 3); simp [Builtin.zeroCells, Value.cells, hl]; omega) hbase)))), grownCap_ge _ _ _ _, grownCap_le_maxLen _ _ _ _ (by unfold maxLen; omega)⟩, Below.cellsSet hbase _ _ _ (Below.drew (Below.cellsSet hbase _ _ _ (Below.drew ((Below.refl base w).alloc hbase _))))⟩
        refine ins_grow hl hi (by simp) (fun k hk => ?_) (fun k hk => ?_)
        · show (w.alloc _).cell? _ = _
          rw [World.cell?_alloc_at (w := w) _ _ w.heap.size _ rfl]
          simp [Array.getElem?_append, List.getElem?_append, List.getElem?_take, hl, hk, hi, show k < min i n by omega, List.getD, List.getElem?_eq_getElem (show k < l.length by omega)]
          try omega
        · show ((w.alloc _).cell? _).isSome = true
          rw [World.cell?_alloc_at (w := w) _ _ w.heap.size _ rfl, Array.getElem?_eq_getElem (by simp [Builtin.zeroCells, Value.cells, hl]; omega)]
          rfl
      · refine (Any2.slices_Insert_int_shift Try.insertI g 0 n c i B 0 1 1 (l.map (Value.int .i64)) [.int .i64 x] w h (by omega) hsp (by unfold maxLen at hcm; omega) (Ne.symm hgn) hml rfl hcs' (fun j hj => by rw [Nat.zero_add]; exact hz _ (by omega)) (fun j hj => hgf _) hvs one h1v
          T 3 1 cur.size hsh (by simp [World.shape?, hg]) (by omega) (hBf _) (hBf _)).mono ?_
        rintro e w' ⟨rfl, rfl⟩
        refine ⟨_, _, rfl, ⟨?_, ((own_wr own).drew.setCells _ _ _).setCells _ _ _, hsp, hcm⟩, Below.cellsSet hbg _ _ _ (Below.cellsSet hbg _ _ _ (Below.drew (Below.refl base w)))⟩
        rw [Nat.zero_add, Nat.zero_add]
        exact ins_shift (w := w.drew) hl hi hgl (fun k hk => (hgc k).trans (cc k (by omega))) (fun k hk => hz k (by omega))
theorem insert_ok (A : Option Addr) (n c i : Nat) (l : List Int) (x : Int) (B base : Nat) (T : TypeId) (w : World) (own : w.ownsRow base 3 1 (.slice A n c) n (l.map (Value.int .i64)))
    (hB : w.heap[B]? = some (.cells #[.int .i64 x] T (0, 0))) (hne : ∀ k, (Value.slice A n c).ownBlock = some k → k ≠ B) (hi : i ≤ n) (hn : n ≤ 1000) (hbase : base ≤ w.heap.size) :
    Calls Try.prog 131 #[.slice A n c, .int .i64 i, .slice (some ⟨B, 0, none⟩) 1 1] w fun e w' => ∃ A2 c2, e = .returned (.slice A2 (n + 1) c2) ∧ Row w' A2 (n + 1) (ins i x l) ∧ Below base w w' :=
  (insert_wr A n c i l x B base T w own hB hne hi hn hbase).mono fun e w' ⟨A2, c2, h1, h2, h3⟩ => ⟨A2, c2, h1, h2.row, h3⟩
end Go.Proofs.Ytpomdnglknbanaa

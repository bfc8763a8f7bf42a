/-
  A town in memory: its block, the rows that it holds, its nodes; each block has one owner (a colour).
-/
import Derived.Test.YtpomdnglknbanaaKs
set_option linter.unusedSimpArgs false
set_option linter.unusedVariables false
namespace Go.Proofs.Ytpomdnglknbanaa
open Go Go.RowKit
structure TSt where
  n : Nat
  nd : Nat → NSt
  dead : Nat → Bool
  way : List ByteArray
/-- The block t holds a town; colours: 0 the town, 1 its configs, 2 its nodes' row, 3 who is dead, 4 what is under way, i + 5 the i-th node. -/
def TRepC (w : World) (t : Nat) (S : TSt) (f : Nat → Prop) (c : Nat → Nat) (ga gn gd ca cn cd : Nat) (wv : Value) (bs : Nat → Nat) : Prop :=
  w.heap[t]? = some (.cells #[.slice (some ⟨ga, 0, none⟩) S.n ca, .slice (some ⟨gn, 0, none⟩) S.n cn, .slice (some ⟨gd, 0, none⟩) S.n cd, wv] 174 (0, 0)) ∧
  (∀ i, i < S.n → w.cell? ⟨ga, i * 5 + 2, none⟩ = some (.int .i64 (S.nd i).every)) ∧ (∀ i, i < S.n → w.cell? ⟨gn, i, none⟩ = some (.pointer (some ⟨bs i, 0, none⟩))) ∧ (∀ i, i < S.n → w.cell? ⟨gd, i, none⟩ = some (.bool (S.dead i))) ∧ (∀ o, w.frozen? ⟨gd, o, none⟩ = false) ∧
  w.ownsRow 0 9 1 wv S.way.length (S.way.map Value.string) ∧ (∀ i, i < S.n → NRep w (bs i) (S.nd i) (fun x => f x ∧ c x = i + 5)) ∧
  (f t ∧ f ga ∧ f gn ∧ f gd) ∧ (c t = 0 ∧ c ga = 1 ∧ c gn = 2 ∧ c gd = 3) ∧ (∀ g, wv.ownBlock = some g → f g ∧ c g = 4) ∧ (∀ x, f x → x < w.heap.size) ∧ S.n ≤ ca ∧ S.n ≤ cn ∧ S.n ≤ cd
def TRep (w : World) (t : Nat) (S : TSt) (f : Nat → Prop) : Prop := ∃ c ga gn gd ca cn cd wv bs, TRepC w t S f c ga gn gd ca cn cd wv bs
variable {w w1 : World} {t ga gn gd ca cn cd : Nat} {S : TSt} {f : Nat → Prop} {c : Nat → Nat} {wv : Value} {bs : Nat → Nat}
theorem TRepC.lt (h : TRepC w t S f c ga gn gd ca cn cd wv bs) : ∀ x, f x → x < w.heap.size := by obtain ⟨_, _, _, _, _, _, _, _, _, _, h, _⟩ := h; exact h
theorem TRep.lt (h : TRep w t S f) : ∀ x, f x → x < w.heap.size := by obtain ⟨_, _, _, _, _, _, _, _, _, h⟩ := h; exact h.lt
theorem TRepC.ft (h : TRepC w t S f c ga gn gd ca cn cd wv bs) : f t := by obtain ⟨_, _, _, _, _, _, _, h, _⟩ := h; exact h.1
theorem TRep.ft (h : TRep w t S f) : f t := by obtain ⟨_, _, _, _, _, _, _, _, _, h⟩ := h; exact h.ft
theorem TRepC.cells (h : TRepC w t S f c ga gn gd ca cn cd wv bs) : w.cell? ⟨t, 0, none⟩ = some (.slice (some ⟨ga, 0, none⟩) S.n ca) ∧ w.cell? ⟨t, 1, none⟩ = some (.slice (some ⟨gn, 0, none⟩) S.n cn) ∧ w.cell? ⟨t, 2, none⟩ = some (.slice (some ⟨gd, 0, none⟩) S.n cd) ∧ w.cell? ⟨t, 3, none⟩ = some wv ∧ ∀ o, w.frozen? ⟨t, o, none⟩ = false := by
  have e := fun o => cell_of_row (w := w) t o _ _ _ h.1
  exact ⟨by rw [e]; rfl, by rw [e]; rfl, by rw [e]; rfl, by rw [e]; rfl, (block_cells h.1).2⟩
/-- Blocks of f as they were: the town is as it was. -/
theorem TRepC.same (h : TRepC w t S f c ga gn gd ca cn cd wv bs) (hs : Same f w w1) : TRepC w1 t S f c ga gn gd ca cn cd wv bs := by
  have hl := h.lt
  obtain ⟨h1, h2, h3, h4, h5, h6, h7, h8, h9, h10, h11, h12⟩ := h
  have blk : ∀ x, f x → w1.heap[x]? = w.heap[x]? := fun x hx => hs.2 x (hl x hx) hx
  exact ⟨(blk t h8.1).trans h1, fun i hi => (World.cell?_of_block (a := ⟨ga, i * 5 + 2, none⟩) (blk ga h8.2.1)).trans (h2 i hi), fun i hi => (World.cell?_of_block (a := ⟨gn, i, none⟩) (blk gn h8.2.2.1)).trans (h3 i hi), fun i hi => (World.cell?_of_block (a := ⟨gd, i, none⟩) (blk gd h8.2.2.2)).trans (h4 i hi),
    fun o => (World.frozen?_of_block (blk gd h8.2.2.2)).trans (h5 o), own_same h6 (fun g hg => (h10 g hg).1) hs, fun i hi => (h7 i hi).same ⟨hs.1, fun x hx hfx => hs.2 x hx hfx.1⟩, h8, h9, h10, fun x hx => Nat.lt_of_lt_of_le (hl x hx) hs.1, h12⟩
theorem TRep.same (h : TRep w t S f) (hs : Same f w w1) : TRep w1 t S f := by
  obtain ⟨c, ga, gn, gd, ca, cn, cd, wv, bs, h⟩ := h
  exact ⟨c, ga, gn, gd, ca, cn, cd, wv, bs, h.same hs⟩
theorem TRep.below (h : TRep w t S f) (hb : Below w.heap.size w w1) : TRep w1 t S f := h.same (Same.of_below hb)
theorem TRepC.below (h : TRepC w t S f c ga gn gd ca cn cd wv bs) (hb : Below w.heap.size w w1) : TRepC w1 t S f c ga gn gd ca cn cd wv bs := h.same (Same.of_below hb)
def setN (S : TSt) (i : Nat) (s : NSt) : TSt := { S with nd := fun j => if j = i then s else S.nd j }
/-- What is done to one node; new blocks below M are its own. -/
theorem TRepC.node (h : TRepC w t S f c ga gn gd ca cn cd wv bs) {i M : Nat} (hi : i < S.n) {s : NSt} {g : Nat → Prop} (hr : NRep w1 (bs i) s g) (hM : w.heap.size ≤ M ∧ M ≤ w1.heap.size) (hg : ∀ x, g x → (f x ∧ c x = i + 5) ∨ (w.heap.size ≤ x ∧ x < M)) (hk : Kept (fun x => f x ∧ c x = i + 5) w w1) (he : s.every = (S.nd i).every) :
    TRepC w1 t (setN S i s) (ext f w.heap.size M) (fun x => if w.heap.size ≤ x then i + 5 else c x) ga gn gd ca cn cd wv bs ∧ Kept f w w1 := by
  have hl := h.lt
  obtain ⟨h1, h2, h3, h4, h5, h6, h7, h8, h9, h10, h11, h12⟩ := h
  have blk : ∀ x, f x → c x ≠ i + 5 → w1.heap[x]? = w.heap[x]? := fun x hx hc => hk.block x (hl x hx) (fun e => hc e.2)
  have col : ∀ x, f x → (if w.heap.size ≤ x then i + 5 else c x) = c x := fun x hx => if_neg (by have := hl x hx; omega)
  have hz := hk.size
  refine ⟨⟨(blk t h8.1 (by omega)).trans h1, fun j hj => ?_, fun j hj => (World.cell?_of_block (a := ⟨gn, j, none⟩) (blk gn h8.2.2.1 (by omega))).trans (h3 j hj), fun j hj => (World.cell?_of_block (a := ⟨gd, j, none⟩) (blk gd h8.2.2.2 (by omega))).trans (h4 j hj),
    fun o => (World.frozen?_of_block (blk gd h8.2.2.2 (by omega))).trans (h5 o), own_same (f := fun x => f x ∧ c x = 4) h6 h10 ⟨hz, fun x hx hfx => blk x hfx.1 (by omega)⟩, fun j hj => ?_, ⟨.inl h8.1, .inl h8.2.1, .inl h8.2.2.1, .inl h8.2.2.2⟩, ⟨(col t h8.1).trans h9.1, (col ga h8.2.1).trans h9.2.1, (col gn h8.2.2.1).trans h9.2.2.1, (col gd h8.2.2.2).trans h9.2.2.2⟩,
    fun x hx => ⟨.inl (h10 x hx).1, (col x (h10 x hx).1).trans (h10 x hx).2⟩, ext_lt (fun x hx => Nat.lt_of_lt_of_le (hl x hx) hz) hM.2, h12⟩, ⟨hk.os, hk.tape, hk.output, hz, fun x hx hfx => hk.block x hx (fun e => hfx e.1)⟩⟩
  · show w1.cell? _ = some (.int .i64 (if j = i then s else S.nd j).every)
    rw [show (if j = i then s else S.nd j).every = (S.nd j).every by split; (rename_i e; rw [e, he]); rfl]
    exact (World.cell?_of_block (a := ⟨ga, j * 5 + 2, none⟩) (blk ga h8.2.1 (by omega))).trans (h2 j hj)
  · show NRep w1 (bs j) (if j = i then s else S.nd j) _
    by_cases e : j = i
    · subst e
      rw [if_pos rfl]
      refine hr.imp (fun x hx => ?_) (fun x hx => ext_lt (fun x hx => Nat.lt_of_lt_of_le (hl x hx) hz) hM.2 x hx.1)
      rcases hg x hx with hx | hx
      · exact ⟨.inl hx.1, (col x hx.1).trans hx.2⟩
      · exact ⟨.inr hx, if_pos hx.1⟩
    · rw [if_neg e]
      refine ((h7 j hj).same ⟨hz, fun x hx hfx => blk x hfx.1 (by omega)⟩).imp (fun x hx => ⟨.inl hx.1, (col x hx.1).trans hx.2⟩) (fun x hx => ext_lt (fun x hx => Nat.lt_of_lt_of_le (hl x hx) hz) hM.2 x hx.1)
theorem town_set {v0 v1 v2 v3 : Value} {T : TypeId} (h : w.heap[t]? = some (.cells #[v0, v1, v2, v3] T (0, 0))) (v : Value) : (w.setCell ⟨t, 3, none⟩ v).heap[t]? = some (.cells #[v0, v1, v2, v] T (0, 0)) := by
  simp [World.setCell, Array.getElem?_modify, h]
def wayN (S : TSt) (L : List ByteArray) : TSt := { S with way := L }
/-- What is under way is another row; new blocks below M are the town's. -/
theorem TRepC.setWay (h : TRepC w t S f c ga gn gd ca cn cd wv bs) {L : List ByteArray} {v : Value} {M : Nat} (hs : Same (fun x => f x ∧ c x ≠ 4) w w1) (hM : w.heap.size ≤ M ∧ M ≤ w1.heap.size) (ho : w1.ownsRow 0 9 1 v L.length (L.map Value.string)) (hv : ∀ g, v.ownBlock = some g → wv.ownBlock = some g ∨ (w.heap.size ≤ g ∧ g < M)) :
    TRepC (w1.setCell ⟨t, 3, none⟩ v) t (wayN S L) (ext f w.heap.size M) (fun x => if w.heap.size ≤ x then 4 else c x) ga gn gd ca cn cd v bs := by
  have hl := h.lt
  obtain ⟨h1, h2, h3, h4, h5, h6, h7, h8, h9, h10, h11, h12⟩ := h
  have hz := hs.1
  have blk : ∀ x, f x → c x ≠ 4 → w1.heap[x]? = w.heap[x]? := fun x hx hc => hs.2 x (hl x hx) ⟨hx, hc⟩
  have blk2 : ∀ x, f x → c x ≠ 4 → x ≠ t → (w1.setCell ⟨t, 3, none⟩ v).heap[x]? = w.heap[x]? := fun x hx hc hne => (Below.heap_setCell _ _ _ _ (fun e => hne e)).trans (blk x hx hc)
  have col : ∀ x, f x → (if w.heap.size ≤ x then 4 else c x) = c x := fun x hx => if_neg (by have := hl x hx; omega)
  have tne : ∀ x, f x → c x ≠ 0 → x ≠ t := fun x _ hc e => hc (by rw [e]; exact h9.1)
  have hvt : v.ownBlock ≠ some t := fun e => by
    rcases hv t e with h | h
    · have := (h10 t h).2; omega
    · have := hl t h8.1; omega
  refine ⟨town_set ((blk t h8.1 (by omega)).trans h1) v, fun j hj => (World.cell?_of_block (a := ⟨ga, j * 5 + 2, none⟩) (blk2 ga h8.2.1 (by omega) (tne _ h8.2.1 (by omega)))).trans (h2 j hj), fun j hj => (World.cell?_of_block (a := ⟨gn, j, none⟩) (blk2 gn h8.2.2.1 (by omega) (tne _ h8.2.2.1 (by omega)))).trans (h3 j hj),
    fun j hj => (World.cell?_of_block (a := ⟨gd, j, none⟩) (blk2 gd h8.2.2.2 (by omega) (tne _ h8.2.2.2 (by omega)))).trans (h4 j hj), fun o => (World.frozen?_of_block (blk2 gd h8.2.2.2 (by omega) (tne _ h8.2.2.2 (by omega)))).trans (h5 o), own_elsewhere ho hvt _ _, fun j hj => ?_,
    ⟨.inl h8.1, .inl h8.2.1, .inl h8.2.2.1, .inl h8.2.2.2⟩, ⟨(col t h8.1).trans h9.1, (col ga h8.2.1).trans h9.2.1, (col gn h8.2.2.1).trans h9.2.2.1, (col gd h8.2.2.2).trans h9.2.2.2⟩, fun x hx => ?_, fun x hx => ?_, h12⟩
  · refine ((h7 j hj).same ⟨by simpa using hz, fun x hx hfx => blk2 x hfx.1 (by omega) (tne x hfx.1 (by omega))⟩).imp (fun x hx => ⟨.inl hx.1, (col x hx.1).trans hx.2⟩) (fun x hx => ?_)
    have := ext_lt (fun x hx => Nat.lt_of_lt_of_le (hl x hx) hz) hM.2 x hx.1
    simpa using this
  · rcases hv x hx with h | h
    · exact ⟨.inl (h10 x h).1, (col x (h10 x h).1).trans (h10 x h).2⟩
    · exact ⟨.inr h, if_pos h.1⟩
  · have := ext_lt (fun x hx => Nat.lt_of_lt_of_le (hl x hx) hz) hM.2 x hx
    simpa using this
def stopN (S : TSt) (i : Nat) : TSt := { S with dead := fun j => if j = i then true else S.dead j }
/-- Someone is stopped. -/
theorem TRepC.stop (h : TRepC w t S f c ga gn gd ca cn cd wv bs) {i : Nat} (hi : i < S.n) : TRepC (w.setCell ⟨gd, i, none⟩ (.bool true)) t (stopN S i) f c ga gn gd ca cn cd wv bs ∧ Kept f w (w.setCell ⟨gd, i, none⟩ (.bool true)) := by
  have hl := h.lt
  obtain ⟨h1, h2, h3, h4, h5, h6, h7, h8, h9, h10, h11, h12⟩ := h
  have blk : ∀ x, c x ≠ 3 → (w.setCell ⟨gd, i, none⟩ (.bool true)).heap[x]? = w.heap[x]? := fun x hc => Below.heap_setCell _ _ _ _ (fun e => hc (by rw [show x = gd from e]; exact h9.2.2.2))
  refine ⟨⟨(blk t (by omega)).trans h1, fun j hj => (World.cell?_of_block (a := ⟨ga, j * 5 + 2, none⟩) (blk ga (by omega))).trans (h2 j hj), fun j hj => (World.cell?_of_block (a := ⟨gn, j, none⟩) (blk gn (by omega))).trans (h3 j hj), fun j hj => ?_, fun o => by simpa using h5 o,
    own_same (f := fun x => c x = 4) h6 (fun g hg => (h10 g hg).2) ⟨by simp, fun x _ hx => blk x (by omega)⟩, fun j hj => (h7 j hj).same ⟨by simp, fun x _ hx => blk x (by omega)⟩, h8, h9, h10, fun x hx => by simpa using hl x hx, h12⟩, ⟨rfl, rfl, rfl, by simp, fun x _ hfx => Below.heap_setCell _ _ _ _ (fun e => hfx (by rw [show x = gd from e]; exact h8.2.2.2))⟩⟩
  show World.cell? _ _ = some (Value.bool (if j = i then true else S.dead j))
  by_cases e : j = i
  · subst e
    rw [if_pos rfl]
    exact World.cell?_setCell_same _ _ _ (by rw [h4 j hj])
  · rw [if_neg e]
    exact (World.cell?_setCell_other _ _ _ _ (fun e' => by injection e' with _ e2; omega)).trans (h4 j hj)
end Go.Proofs.Ytpomdnglknbanaa

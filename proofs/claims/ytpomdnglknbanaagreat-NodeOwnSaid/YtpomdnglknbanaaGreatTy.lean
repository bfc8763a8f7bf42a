
/-
  Rows of strings: read, appended to one another, slices.Equal, slices.Concat, slices.Grow.
  A town in memory: its block, the rows that it holds, its nodes; each block has one owner (a colour).
  (*Town).Level, Join, Stop, Way, Bring of a node that lives. (*Town).Tick. slices.Delete at strings; (*Town).Lose.
-/
import Derived.Test.YtpomdnglknbanaaGreatKs
import Derived.Test.YtpomdnglknbanaaGreatShelfG
import Derived.Laws.AppendOwnNone
import Derived.Test.YtpomdnglknbanaaGreatShelf
import Derived.Test.YtpomdnglknbanaaGreatQV
import Derived.Deep.DeepCutAuto
import Derived.Test.YtpomdnglknbanaaGreatQM
import Derived.Maps.AppendAt
import Derived.Deep.RegionLaw
import Derived.Deep.AppendLies
set_option linter.unusedSimpArgs false
set_option linter.unusedVariables false
namespace Go.Proofs.YtpomdnglknbanaaGreat
open Go Go.RowKit
def TRow (w : World) (A : Option Addr) (n : Nat) (L : List ByteArray) : Prop :=
  L.length = n ∧ (0 < n → ∃ b off, A = some ⟨b, off, none⟩ ∧ b < w.heap.size ∧ ∀ k, k < n → w.cell? ⟨b, off + k, none⟩ = some (.string (L.getD k ⟨#[]⟩)))
theorem TRow.below {w w' : World} {A : Option Addr} {n : Nat} {L : List ByteArray} (h : TRow w A n L) (hb : Below w.heap.size w w') : TRow w' A n L := by
  refine ⟨h.1, fun h0 => ?_⟩
  obtain ⟨b, off, hA, lb, hp⟩ := h.2 h0
  exact ⟨b, off, hA, Nat.lt_of_lt_of_le lb hb.size, fun k hk => (hb.cell (p := ⟨b, _, none⟩) lb).trans (hp k hk)⟩
theorem TRow.at {w : World} {A : Option Addr} {n : Nat} {L : List ByteArray} (h : TRow w A n L) {k : Nat} (hk : k < n) : ∃ b off, A = some ⟨b, off, none⟩ ∧ b < w.heap.size ∧ w.cell? ⟨b, off + k, none⟩ = some (.string (L.getD k ⟨#[]⟩)) := by
  obtain ⟨b, off, hA, lb, hp⟩ := h.2 (by omega)
  exact ⟨b, off, hA, lb, hp k hk⟩
theorem trow_own {w : World} {base n c : Nat} {A : Option Addr} {L : List ByteArray} (h : w.ownsRow base 9 1 (.slice A n c) n (L.map Value.string)) : TRow w A n L := by
  have hn : L.length = n := by have := h.1; simpa using this
  refine ⟨hn, fun h0 => ?_⟩
  have h4 := h
  rcases h.2 with ⟨_, h0'⟩ | ⟨g, c', cur, he, _, hg, hnc, hcm, hcs, htk⟩
  · omega
  simp only [Value.slice.injEq] at he
  obtain ⟨rfl, _, rfl⟩ := he
  refine ⟨g, 0, rfl, (Array.getElem?_eq_some_iff.1 hg).1, fun k hk => ?_⟩
  have := h4.cells (g := g) rfl k (.string (L.getD k ⟨#[]⟩)) (by rw [List.getElem?_map, List.getElem?_eq_getElem (by omega), List.getD_eq_getElem?_getD, List.getElem?_eq_getElem (by omega)]; rfl)
  rw [Go.WideShapes.add_plain, Nat.zero_add] at this
  rw [Nat.zero_add]
  exact this
theorem strs_one (L : List ByteArray) : ∀ u ∈ L.map Value.string, u.oneCell' = true := by
  intro u hu
  obtain ⟨s, _, rfl⟩ := List.mem_map.1 hu
  rfl
theorem trow_cells0 {w : World} {base n c : Nat} {ad : Addr} {xs : List Value} (h : w.ownsRow base 9 1 (.slice (some ad) n c) n xs) : ∀ j u, xs[j]? = some u → w.cell? (ad.add j) = some u := by
  intro j u hu
  have h4 := h
  rcases h.2 with ⟨he, h0'⟩ | ⟨g, c', cur, he, _, hg, hnc, hcm, hcs, htk⟩
  · cases he
  simp only [Value.slice.injEq, Option.some.injEq] at he
  obtain ⟨rfl, _, rfl⟩ := he
  have := h4.cells (g := g) rfl j u hu
  exact this
/-- append(own, other...), both rows of strings. -/
theorem wpList_append_rowT {w : World} {ops : Array Oper} {rest : List Oper} {o : Oper} {a : Act} {Q : Exit → Act → World → Prop} (hw : Region.wanted o (yielded ops a.tmps) = true) (s x : Operand)
    (ho : o.op = .call { callee := .builtin .append, args := #[s, x], argTypes := #[56, 56] })
    (base base2 : Nat) (v : Value) (n : Nat) (xs : List ByteArray) (hs : a.eval s = v) (hown : w.ownsRow base 9 1 v n (xs.map Value.string))
    (A : Option Addr) (m c : Nat) (ys : List ByteArray) (hx : a.eval x = .slice A m c) (hr : w.ownsRow base2 9 1 (.slice A m c) m (ys.map Value.string)) (h63 : n + m ≤ 1000000) (hbase : base ≤ w.heap.size)
    (h : ∀ v' w', w'.ownsRow base 9 1 v' (n + m) ((xs ++ ys).map Value.string) → w.grownBy w' v.ownBlock → wpList Tryz.prog ops Q rest (a.put o.dst v') w') : wpList Tryz.prog ops Q (o :: rest) a w := by
  obtain ⟨i, hi, hz, hsize, hby⟩ := info_parts info_str
  unfold wpList
  rw [if_pos hw]
  left
  rcases A with _ | ad
  · obtain ⟨A', c', he, h1, h2, h3⟩ := own_form hr
    simp only [Value.slice.injEq] at he
    obtain ⟨rfl, _, rfl⟩ := he
    obtain ⟨rfl, rfl⟩ := h3 rfl
    have e0 : ys = [] := by have := hr.1; exact List.eq_nil_of_length_eq_zero (by simpa using this)
    subst e0
    have hrun := run_append_owned_none (P := Tryz.prog) (w := w) base 56 o.type 9 i 1 Tryz.underlying56 hi v n _ hown
    unfold Oper.wp
    simp [execOp, ho, resolve, invoke, builtin, hs, hx, hrun, Result.andThen]
    exact h v w (by simpa using hown) ⟨rfl, rfl, rfl, Nat.le_refl _, fun _ _ _ => rfl⟩
  · refine wp_append_own w s x 56 ho base 9 i (.string ⟨#[]⟩) 1 16 Tryz.underlying56 hi hz hsize hby rfl (by decide) v n _ hs hown ad m c (ys.map Value.string) hx (by have := hr.1; simpa using this) (trow_cells0 hr) (strs_one ys) (by unfold maxLen; omega) (by omega) hbase ?_
    intro v' w' h2 h3 _
    exact h v' w' (by simpa using h2) h3
theorem heap_newT (w : World) (o : Obj) : (w.drew.alloc o).heap[w.heap.size]? = some o := by
  show (w.heap.push o)[w.heap.size]? = some o
  simp
set_option maxHeartbeats 4000000 in
/-- slices.Equal at two rows of strings that read alike. -/
theorem equalT_ok (A B : Option Addr) (n c c' : Nat) (L : List ByteArray) (w : World) (ha : TRow w A n L) (hb : TRow w B n L) (hn : n ≤ 1000000) :
    Calls Tryz.prog 29 #[.slice A n c, .slice B n c'] w fun e w' => e = .returned (.bool true) ∧ Below w.heap.size w w' := by
  have HA := Lib.hid ha
  have HB := Lib.hid hb
  have e0 : ((n : Int) == n) = true := by simp
  clear ha hb
  go_enter Tryz.func29, Tryz.ntmps29
  go_wp2_with fail
  go_loopw [13] (fun i wr => ∃ k : Nat, k ≤ n ∧ i = .int .i64 k ∧ Below w.heap.size w wr) (fun i _ => n - (intOf i).toNat)
  case atStart => exact ⟨0, Nat.zero_le _, rfl, Below.refl _ _⟩
  case round =>
    obtain ⟨k, hk, rfl, bel⟩ := hrel
    by_cases hlt : k < n
    · obtain ⟨ba, oa, rfl, la, a0⟩ := (HA.out.below bel).at hlt
      obtain ⟨bb, ob, rfl, lb, b0⟩ := (HB.out.below bel).at hlt
      obtain ⟨s, hs⟩ : ∃ x, L.getD k ⟨#[]⟩ = x := ⟨_, rfl⟩
      rw [hs] at a0 b0
      have kw : IntKind.i64.wrap ((k : Int) + 1) = (k : Int) + 1 := IntWalk.i64_in _ (by omega)
      have HBe := Lib.hid bel
      clear hs bel
      go_wp2_with fail
      refine wp_region_quiet_all (Ext _) (by kernel_rfl) (by kernel_rfl) (Ext.drawn _) ?_
      repeat (first | go_big_quiet_skip | go_big_quiet_step (fail) | (refine BigFrame.wpQuiet_want rfl (fun K hK => ?_); apply Exists.intro; refine ⟨fun w2 h2 => ?_, ?_⟩; (next => (have g1 := Below.cells h2.below; have g2 := Below.frozens h2.below; (try simp only [World.size_alloc, World.size_setCell] at g1 g2); first | (go_simp; (fail)) | (simp [go_sem, ↓IntWalk.iteOmega, *]; done) | (simp [go_sem, ↓IntWalk.iteOmega, *]; rfl)))); (go_simp; refine hK _ ?_; clear hK K))
      refine wpQuiet_nil ?_
      intro w1 h1
      have hb1 := h1.below
      clear h1
      have z1 := hb1.size
      have c1 := Below.cells hb1
      have f1 := Below.frozens hb1
      try simp only [World.size_alloc, World.size_setCell, World.size_drew] at z1 c1 f1
      go_wp2_with fail
      go_roundw
      case rel => exact ⟨k + 1, by omega, by go_num, HBe.out.trans (hb1.mono HBe.out.size)⟩
      case measure => simp [intOf]; omega
    · obtain rfl : n = k := by omega
      go_wp2_with fail
      go_ret
      exact ⟨rfl, bel⟩
/-- What is sent, as strings. -/
def sentB (id : ByteArray) (inc seq m : Nat) : List ByteArray := (List.range m).map fun j => mkB (encL (byts id) inc (seq + 1 + j))
theorem sent_map (id : ByteArray) (inc seq m : Nat) : sent id inc seq m = (sentB id inc seq m).map Value.string := by unfold sent sentB; rw [List.map_map]; rfl
theorem sentB_len (id : ByteArray) (inc seq m : Nat) : (sentB id inc seq m).length = m := by simp [sentB]
theorem sentB_app (id : ByteArray) (inc seq m m' : Nat) : sentB id inc seq (m + m') = sentB id inc seq m ++ sentB id inc (seq + m) m' := by
  unfold sentB
  rw [List.range_add, List.map_append, List.map_map]
  congr 1
  apply List.map_congr_left
  intro j _
  show mkB (encL (byts id) inc (seq + 1 + (m + j))) = _
  rw [show seq + 1 + (m + j) = seq + m + 1 + j by omega]
theorem sentB_get {id : ByteArray} {inc seq m k : Nat} (hk : k < m) : (sentB id inc seq m).getD k ⟨#[]⟩ = mkB (encL (byts id) inc (seq + 1 + k)) := by
  rw [List.getD_eq_getElem?_getD, List.getElem?_eq_getElem (by rw [sentB_len]; exact hk)]
  simp [sentB]
end Go.Proofs.YtpomdnglknbanaaGreat
namespace Go.Proofs.YtpomdnglknbanaaGreat
open Go Go.RowKit
structure TSt where
  n : Nat
  nd : Nat → NSt
  dead : Nat → Bool
  way : List ByteArray
/-- The block t holds a town; colours: 0 the town, 1 its configs, 2 its nodes' row, 3 who is dead, 4 what is under way, i + 5 the i-th node. -/
def TRepC (w : World) (t : Nat) (S : TSt) (f : Nat → Prop) (c : Nat → Nat) (ga gn gd ca cn cd : Nat) (wv : Value) (bs : Nat → Nat) : Prop :=
  w.heap[t]? = some (.cells #[.slice (some ⟨ga, 0, none⟩) S.n ca, .slice (some ⟨gn, 0, none⟩) S.n cn, .slice (some ⟨gd, 0, none⟩) S.n cd, wv] 102 (0, 0)) ∧
  (∀ i, i < S.n → w.cell? ⟨ga, i * 5 + 2, none⟩ = some (.int .i64 (S.nd i).every)) ∧ (∀ i, i < S.n → w.cell? ⟨gn, i, none⟩ = some (.pointer (some ⟨bs i, 0, none⟩))) ∧ (∀ i, i < S.n → w.cell? ⟨gd, i, none⟩ = some (.bool (S.dead i))) ∧ (∀ o, w.frozen? ⟨gd, o, none⟩ = false) ∧
  w.ownsRow 0 9 1 wv S.way.length (S.way.map Value.string) ∧ (∀ i, i < S.n → NRep w (bs i) (S.nd i) (fun x => f x ∧ c x = i + 5)) ∧
  (f t ∧ f ga ∧ f gn ∧ f gd) ∧ (c t = 0 ∧ c ga = 1 ∧ c gn = 2 ∧ c gd = 3) ∧ (∀ g, wv.ownBlock = some g → f g ∧ c g = 4) ∧ (∀ x, f x → x < w.heap.size) ∧ S.n ≤ ca ∧ S.n ≤ cn ∧ S.n ≤ cd
def TRep (w : World) (t : Nat) (S : TSt) (f : Nat → Prop) : Prop := ∃ c ga gn gd ca cn cd wv bs, TRepC w t S f c ga gn gd ca cn cd wv bs
variable {w w1 : World} {t ga gn gd ca cn cd : Nat} {S : TSt} {f : Nat → Prop} {c : Nat → Nat} {wv : Value} {bs : Nat → Nat}
theorem TRepC.lt (h : TRepC w t S f c ga gn gd ca cn cd wv bs) : ∀ x, f x → x < w.heap.size := by obtain ⟨_, _, _, _, _, _, _, _, _, _, h, _⟩ := h; exact h
theorem TRep.lt (h : TRep w t S f) : ∀ x, f x → x < w.heap.size := by obtain ⟨_, _, _, _, _, _, _, _, _, h⟩ := h; exact h.lt
theorem TRepC.ft (h : TRepC w t S f c ga gn gd ca cn cd wv bs) : f t := by obtain ⟨_, _, _, _, _, _, _, h, _⟩ := h; exact h.1
theorem TRep.ft (h : TRep w t S f) : f t := by obtain ⟨_, _, _, _, _, _, _, _, _, h⟩ := h; exact h.ft
theorem TRepC.cells (h : TRepC w t S f c ga gn gd ca cn cd wv bs) : w.cell? ⟨t, 0, none⟩ = some (.slice (some ⟨ga, 0, none⟩) S.n ca) ∧ w.cell? ⟨t, 1, none⟩ = some (.slice (some ⟨gn, 0, none⟩) S.n cn) ∧ w.cell? ⟨t, 2, none⟩ = some (.slice (some ⟨gd, 0, none⟩) S.n cd) ∧ w.cell? ⟨t, 3, none⟩ = some wv ∧ ∀ o, w.frozen? ⟨t, o, none⟩ = false := by
  have e := fun o => cell_of_row (w := w) t o _ _ _ h.1
  exact ⟨by rw [e]; rfl, by rw [e]; rfl, by rw [e]; rfl, by rw [e]; rfl, (block_cells h.1).2⟩
/-- Blocks of f as they were: the town is as it was. -/
theorem TRepC.same (h : TRepC w t S f c ga gn gd ca cn cd wv bs) (hs : Same f w w1) : TRepC w1 t S f c ga gn gd ca cn cd wv bs := by
  have hl := h.lt
  obtain ⟨h1, h2, h3, h4, h5, h6, h7, h8, h9, h10, h11, h12⟩ := h
  have blk : ∀ x, f x → w1.heap[x]? = w.heap[x]? := fun x hx => hs.2 x (hl x hx) hx
  exact ⟨(blk t h8.1).trans h1, fun i hi => (World.cell?_of_block (a := ⟨ga, i * 5 + 2, none⟩) (blk ga h8.2.1)).trans (h2 i hi), fun i hi => (World.cell?_of_block (a := ⟨gn, i, none⟩) (blk gn h8.2.2.1)).trans (h3 i hi), fun i hi => (World.cell?_of_block (a := ⟨gd, i, none⟩) (blk gd h8.2.2.2)).trans (h4 i hi),
    fun o => (World.frozen?_of_block (blk gd h8.2.2.2)).trans (h5 o), own_same h6 (fun g hg => (h10 g hg).1) hs, fun i hi => (h7 i hi).same ⟨hs.1, fun x hx hfx => hs.2 x hx hfx.1⟩, h8, h9, h10, fun x hx => Nat.lt_of_lt_of_le (hl x hx) hs.1, h12⟩
theorem TRep.same (h : TRep w t S f) (hs : Same f w w1) : TRep w1 t S f := by
  obtain ⟨c, ga, gn, gd, ca, cn, cd, wv, bs, h⟩ := h
  exact ⟨c, ga, gn, gd, ca, cn, cd, wv, bs, h.same hs⟩
theorem TRep.below (h : TRep w t S f) (hb : Below w.heap.size w w1) : TRep w1 t S f := h.same (Same.of_below hb)
theorem TRepC.below (h : TRepC w t S f c ga gn gd ca cn cd wv bs) (hb : Below w.heap.size w w1) : TRepC w1 t S f c ga gn gd ca cn cd wv bs := h.same (Same.of_below hb)
def setN (S : TSt) (i : Nat) (s : NSt) : TSt := { S with nd := fun j => if j = i then s else S.nd j }
/-- What is done to one node; new blocks below M are its own. -/
theorem TRepC.node (h : TRepC w t S f c ga gn gd ca cn cd wv bs) {i M : Nat} (hi : i < S.n) {s : NSt} {g : Nat → Prop} (hr : NRep w1 (bs i) s g) (hM : w.heap.size ≤ M ∧ M ≤ w1.heap.size) (hg : ∀ x, g x → (f x ∧ c x = i + 5) ∨ (w.heap.size ≤ x ∧ x < M)) (hk : Kept (fun x => f x ∧ c x = i + 5) w w1) (he : s.every = (S.nd i).every) :
    TRepC w1 t (setN S i s) (ext f w.heap.size M) (fun x => if w.heap.size ≤ x then i + 5 else c x) ga gn gd ca cn cd wv bs ∧ Kept f w w1 := by
  have hl := h.lt
  obtain ⟨h1, h2, h3, h4, h5, h6, h7, h8, h9, h10, h11, h12⟩ := h
  have blk : ∀ x, f x → c x ≠ i + 5 → w1.heap[x]? = w.heap[x]? := fun x hx hc => hk.block x (hl x hx) (fun e => hc e.2)
  have col : ∀ x, f x → (if w.heap.size ≤ x then i + 5 else c x) = c x := fun x hx => if_neg (by have := hl x hx; omega)
  have hz := hk.size
  refine ⟨⟨(blk t h8.1 (by omega)).trans h1, fun j hj => ?_, fun j hj => (World.cell?_of_block (a := ⟨gn, j, none⟩) (blk gn h8.2.2.1 (by omega))).trans (h3 j hj), fun j hj => (World.cell?_of_block (a := ⟨gd, j, none⟩) (blk gd h8.2.2.2 (by omega))).trans (h4 j hj),
    fun o => (World.frozen?_of_block (blk gd h8.2.2.2 (by omega))).trans (h5 o), own_same (f := fun x => f x ∧ c x = 4) h6 h10 ⟨hz, fun x hx hfx => blk x hfx.1 (by omega)⟩, fun j hj => ?_, ⟨.inl h8.1, .inl h8.2.1, .inl h8.2.2.1, .inl h8.2.2.2⟩, ⟨(col t h8.1).trans h9.1, (col ga h8.2.1).trans h9.2.1, (col gn h8.2.2.1).trans h9.2.2.1, (col gd h8.2.2.2).trans h9.2.2.2⟩,
    fun x hx => ⟨.inl (h10 x hx).1, (col x (h10 x hx).1).trans (h10 x hx).2⟩, ext_lt (fun x hx => Nat.lt_of_lt_of_le (hl x hx) hz) hM.2, h12⟩, ⟨hk.os, hk.tape, hk.output, hz, fun x hx hfx => hk.block x hx (fun e => hfx e.1)⟩⟩
  · show w1.cell? _ = some (.int .i64 (if j = i then s else S.nd j).every)
    rw [show (if j = i then s else S.nd j).every = (S.nd j).every by split; (rename_i e; rw [e, he]); rfl]
    exact (World.cell?_of_block (a := ⟨ga, j * 5 + 2, none⟩) (blk ga h8.2.1 (by omega))).trans (h2 j hj)
  · show NRep w1 (bs j) (if j = i then s else S.nd j) _
    by_cases e : j = i
    · subst e
      rw [if_pos rfl]
      refine hr.imp (fun x hx => ?_) (fun x hx => ext_lt (fun x hx => Nat.lt_of_lt_of_le (hl x hx) hz) hM.2 x hx.1)
      rcases hg x hx with hx | hx
      · exact ⟨.inl hx.1, (col x hx.1).trans hx.2⟩
      · exact ⟨.inr hx, if_pos hx.1⟩
    · rw [if_neg e]
      refine ((h7 j hj).same ⟨hz, fun x hx hfx => blk x hfx.1 (by omega)⟩).imp (fun x hx => ⟨.inl hx.1, (col x hx.1).trans hx.2⟩) (fun x hx => ext_lt (fun x hx => Nat.lt_of_lt_of_le (hl x hx) hz) hM.2 x hx.1)
theorem town_set {v0 v1 v2 v3 : Value} {T : TypeId} (h : w.heap[t]? = some (.cells #[v0, v1, v2, v3] T (0, 0))) (v : Value) : (w.setCell ⟨t, 3, none⟩ v).heap[t]? = some (.cells #[v0, v1, v2, v] T (0, 0)) := by
  simp [World.setCell, Array.getElem?_modify, h]
def wayN (S : TSt) (L : List ByteArray) : TSt := { S with way := L }
/-- What is under way is another row; new blocks below M are the town's. -/
theorem TRepC.setWay (h : TRepC w t S f c ga gn gd ca cn cd wv bs) {L : List ByteArray} {v : Value} {M : Nat} (hs : Same (fun x => f x ∧ c x ≠ 4) w w1) (hM : w.heap.size ≤ M ∧ M ≤ w1.heap.size) (ho : w1.ownsRow 0 9 1 v L.length (L.map Value.string)) (hv : ∀ g, v.ownBlock = some g → wv.ownBlock = some g ∨ (w.heap.size ≤ g ∧ g < M)) :
    TRepC (w1.setCell ⟨t, 3, none⟩ v) t (wayN S L) (ext f w.heap.size M) (fun x => if w.heap.size ≤ x then 4 else c x) ga gn gd ca cn cd v bs := by
  have hl := h.lt
  obtain ⟨h1, h2, h3, h4, h5, h6, h7, h8, h9, h10, h11, h12⟩ := h
  have hz := hs.1
  have blk : ∀ x, f x → c x ≠ 4 → w1.heap[x]? = w.heap[x]? := fun x hx hc => hs.2 x (hl x hx) ⟨hx, hc⟩
  have blk2 : ∀ x, f x → c x ≠ 4 → x ≠ t → (w1.setCell ⟨t, 3, none⟩ v).heap[x]? = w.heap[x]? := fun x hx hc hne => (Below.heap_setCell _ _ _ _ (fun e => hne e)).trans (blk x hx hc)
  have col : ∀ x, f x → (if w.heap.size ≤ x then 4 else c x) = c x := fun x hx => if_neg (by have := hl x hx; omega)
  have tne : ∀ x, f x → c x ≠ 0 → x ≠ t := fun x _ hc e => hc (by rw [e]; exact h9.1)
  have hvt : v.ownBlock ≠ some t := fun e => by
    rcases hv t e with h | h
    · have := (h10 t h).2; omega
    · have := hl t h8.1; omega
  refine ⟨town_set ((blk t h8.1 (by omega)).trans h1) v, fun j hj => (World.cell?_of_block (a := ⟨ga, j * 5 + 2, none⟩) (blk2 ga h8.2.1 (by omega) (tne _ h8.2.1 (by omega)))).trans (h2 j hj), fun j hj => (World.cell?_of_block (a := ⟨gn, j, none⟩) (blk2 gn h8.2.2.1 (by omega) (tne _ h8.2.2.1 (by omega)))).trans (h3 j hj),
    fun j hj => (World.cell?_of_block (a := ⟨gd, j, none⟩) (blk2 gd h8.2.2.2 (by omega) (tne _ h8.2.2.2 (by omega)))).trans (h4 j hj), fun o => (World.frozen?_of_block (blk2 gd h8.2.2.2 (by omega) (tne _ h8.2.2.2 (by omega)))).trans (h5 o), own_elsewhere ho hvt _ _, fun j hj => ?_,
    ⟨.inl h8.1, .inl h8.2.1, .inl h8.2.2.1, .inl h8.2.2.2⟩, ⟨(col t h8.1).trans h9.1, (col ga h8.2.1).trans h9.2.1, (col gn h8.2.2.1).trans h9.2.2.1, (col gd h8.2.2.2).trans h9.2.2.2⟩, fun x hx => ?_, fun x hx => ?_, h12⟩
  · refine ((h7 j hj).same ⟨by simpa using hz, fun x hx hfx => blk2 x hfx.1 (by omega) (tne x hfx.1 (by omega))⟩).imp (fun x hx => ⟨.inl hx.1, (col x hx.1).trans hx.2⟩) (fun x hx => ?_)
    have := ext_lt (fun x hx => Nat.lt_of_lt_of_le (hl x hx) hz) hM.2 x hx.1
    simpa using this
  · rcases hv x hx with h | h
    · exact ⟨.inl (h10 x h).1, (col x (h10 x h).1).trans (h10 x h).2⟩
    · exact ⟨.inr h, if_pos h.1⟩
  · have := ext_lt (fun x hx => Nat.lt_of_lt_of_le (hl x hx) hz) hM.2 x hx
    simpa using this
def stopN (S : TSt) (i : Nat) : TSt := { S with dead := fun j => if j = i then true else S.dead j }
/-- Someone is stopped. -/
theorem TRepC.stop (h : TRepC w t S f c ga gn gd ca cn cd wv bs) {i : Nat} (hi : i < S.n) : TRepC (w.setCell ⟨gd, i, none⟩ (.bool true)) t (stopN S i) f c ga gn gd ca cn cd wv bs ∧ Kept f w (w.setCell ⟨gd, i, none⟩ (.bool true)) := by
  have hl := h.lt
  obtain ⟨h1, h2, h3, h4, h5, h6, h7, h8, h9, h10, h11, h12⟩ := h
  have blk : ∀ x, c x ≠ 3 → (w.setCell ⟨gd, i, none⟩ (.bool true)).heap[x]? = w.heap[x]? := fun x hc => Below.heap_setCell _ _ _ _ (fun e => hc (by rw [show x = gd from e]; exact h9.2.2.2))
  refine ⟨⟨(blk t (by omega)).trans h1, fun j hj => (World.cell?_of_block (a := ⟨ga, j * 5 + 2, none⟩) (blk ga (by omega))).trans (h2 j hj), fun j hj => (World.cell?_of_block (a := ⟨gn, j, none⟩) (blk gn (by omega))).trans (h3 j hj), fun j hj => ?_, fun o => by simpa using h5 o,
    own_same (f := fun x => c x = 4) h6 (fun g hg => (h10 g hg).2) ⟨by simp, fun x _ hx => blk x (by omega)⟩, fun j hj => (h7 j hj).same ⟨by simp, fun x _ hx => blk x (by omega)⟩, h8, h9, h10, fun x hx => by simpa using hl x hx, h12⟩, ⟨rfl, rfl, rfl, by simp, fun x _ hfx => Below.heap_setCell _ _ _ _ (fun e => hfx (by rw [show x = gd from e]; exact h8.2.2.2))⟩⟩
  show World.cell? _ _ = some (Value.bool (if j = i then true else S.dead j))
  by_cases e : j = i
  · subst e
    rw [if_pos rfl]
    exact World.cell?_setCell_same _ _ _ (by rw [h4 j hj])
  · rw [if_neg e]
    exact (World.cell?_setCell_other _ _ _ _ (fun e' => by injection e' with _ e2; omega)).trans (h4 j hj)
end Go.Proofs.YtpomdnglknbanaaGreat
namespace Go.Proofs.YtpomdnglknbanaaGreat
open Go Go.RowKit
theorem TRepC.parts {w : World} {t ga gn gd ca cn cd : Nat} {S : TSt} {f : Nat → Prop} {c : Nat → Nat} {wv : Value} {bs : Nat → Nat} (h : TRepC w t S f c ga gn gd ca cn cd wv bs) {i : Nat} (hi : i < S.n) :
    w.cell? ⟨ga, i * 5 + 2, none⟩ = some (.int .i64 (S.nd i).every) ∧ w.cell? ⟨gn, i, none⟩ = some (.pointer (some ⟨bs i, 0, none⟩)) ∧ w.cell? ⟨gd, i, none⟩ = some (.bool (S.dead i)) ∧ NRep w (bs i) (S.nd i) (fun x => f x ∧ c x = i + 5) ∧ t < w.heap.size ∧ gn < w.heap.size ∧ gd < w.heap.size ∧ ga < w.heap.size := by
  have hl := h.lt
  obtain ⟨h1, h2, h3, h4, h5, h6, h7, h8, h9, h10, h11, h12⟩ := h
  exact ⟨h2 i hi, h3 i hi, h4 i hi, h7 i hi, hl t h8.1, hl gn h8.2.2.1, hl gd h8.2.2.2, hl ga h8.2.1⟩
theorem TRepC.way {w : World} {t ga gn gd ca cn cd : Nat} {S : TSt} {f : Nat → Prop} {c : Nat → Nat} {wv : Value} {bs : Nat → Nat} (h : TRepC w t S f c ga gn gd ca cn cd wv bs) : w.ownsRow 0 9 1 wv S.way.length (S.way.map Value.string) := by
  obtain ⟨_, _, _, _, _, h6, _⟩ := h
  exact h6
theorem TRepC.wayAt {w : World} {t ga gn gd ca cn cd : Nat} {S : TSt} {f : Nat → Prop} {c : Nat → Nat} {wv : Value} {bs : Nat → Nat} (h : TRepC w t S f c ga gn gd ca cn cd wv bs) {i : Nat} (hi : i < S.way.length) :
    ∃ gw cw, wv = .slice (some ⟨gw, 0, none⟩) S.way.length cw ∧ gw < w.heap.size ∧ w.cell? ⟨gw, i, none⟩ = some (.string (S.way.getD i ⟨#[]⟩)) := by
  have h6 := h.way
  obtain ⟨A, cw, rfl, _, _, hn⟩ := own_form h6
  have hT := trow_own h6
  obtain ⟨b, off, rfl, lb, hc⟩ := hT.at hi
  rcases h6.2 with ⟨h, _⟩ | ⟨g, cap, cur, he, _⟩
  · cases h
  simp only [Value.slice.injEq, Option.some.injEq, Addr.mk.injEq, and_true, true_and] at he
  obtain ⟨⟨rfl, rfl⟩, _⟩ := he
  rw [Nat.zero_add] at hc
  exact ⟨b, cw, rfl, lb, hc⟩
theorem cloneT_ok (A : Option Addr) (n c base : Nat) (L : List ByteArray) (w : World) (own : w.ownsRow base 9 1 (.slice A n c) n (L.map Value.string)) (hn : n ≤ 1000000) :
    Calls Tryz.prog 44 #[.slice A n c] w fun e w' => ∃ A' c', e = .returned (.slice A' n c') ∧ w'.ownsRow w.heap.size 9 1 (.slice A' n c') n (L.map Value.string) ∧ Below w.heap.size w w' := by
  have hT := trow_own own
  have hl := hT.1
  rcases own.2 with ⟨he, h0⟩ | ⟨g, cap, cur, he, _⟩
  · simp only [Value.slice.injEq] at he
    obtain ⟨rfl, _, rfl⟩ := he
    subst h0
    have e0 : L = [] := List.eq_nil_of_length_eq_zero hl
    subst e0
    refine (Tryz.slices_Clone_string_nil 0 0 w).mono ?_
    rintro e w' ⟨rfl, rfl⟩
    exact ⟨none, 0, rfl, World.ownsRow_nil _ _ _ _, Below.refl _ _⟩
  · simp only [Value.slice.injEq] at he
    obtain ⟨rfl, _, rfl⟩ := he
    refine (Tryz.slices_Clone_string g 0 n c L w (by omega) (by omega) (fun j hj => ?_)).mono ?_
    · obtain ⟨b, off, hA, _, hc⟩ := hT.at (show j < n by omega)
      simp only [Option.some.injEq, Addr.mk.injEq, and_true] at hA
      obtain ⟨rfl, rfl⟩ := hA
      exact hc
    · rintro e w' ⟨v, rfl, own', _, hb⟩
      rw [List.take_of_length_le (by omega)] at own'
      obtain ⟨A', c', rfl, _⟩ := own_form own'
      exact ⟨A', c', rfl, own', hb⟩
section
variable {t i : Nat} {S : TSt} {f : Nat → Prop}
set_option maxRecDepth 100000 in
set_option maxHeartbeats 8000000 in
theorem tway_ok (w : World) (h : TRep w t S f) (hw : S.way.length ≤ 1000000) :
    Calls Tryz.prog 24 #[.pointer (some ⟨t, 0, none⟩)] w fun e w' => ∃ A' c', e = .returned (.slice A' S.way.length c') ∧ w'.ownsRow w.heap.size 9 1 (.slice A' S.way.length c') S.way.length (S.way.map Value.string) ∧ Below w.heap.size w w' := by
  obtain ⟨c, ga, gn, gd, ca, cn, cd, wv, bs, h⟩ := h
  obtain ⟨_, _, _, k3, _⟩ := h.cells
  have h6 := h.way
  obtain ⟨A, cw, rfl, hnc, hcm, hnil⟩ := own_form h6
  have HCl := Lib.hid (cloneT_ok A S.way.length cw 0 S.way w h6 hw)
  clear h h6 hnc hcm hnil
  go_enter Tryz.func24, Tryz.ntmps24
  go_wp2_with fail
  refine HCl.out.mono ?_
  rintro e w1 ⟨A1, c1, rfl, own1, hb1⟩
  have O1 := Lib.hid own1
  clear own1
  go_wp2_with fail
  go_ret
  exact ⟨A1, c1, rfl, O1.out, hb1⟩
end
end Go.Proofs.YtpomdnglknbanaaGreat
namespace Go.Proofs.YtpomdnglknbanaaGreat
open Go Go.RowKit
/-- A node of a town. -/
structure TN (s : NSt) : Prop where
  ok : NOK s
  inc : s.inc = 0
  seq : s.seq = s.now / s.every
def mT (s : NSt) (g : Int) : Nat := ((s.now + g) / s.every - s.now / s.every).toNat
def txT (s : NSt) (g : Int) : List ByteArray := sentB s.id 0 (s.now / s.every).toNat (mT s g)
theorem TN.tick {s : NSt} {g : Int} (h : TN s) (hg : 1 ≤ g) (hn : s.now + g ≤ 1073741824) : TN (tickS s g) := by
  have h2 := h.ok.now
  have h3 := h.ok.every
  have h4 := seq_le (n := s.now + g) (E := s.every) (by omega) h3.1
  exact ⟨⟨h.ok.id, h.ok.inc, h.ok.every, h.ok.cap, h.ok.least, ⟨by show 0 ≤ s.now + g; omega, hn⟩, h4, h.ok.drops, h.ok.tab, fun p hp => ⟨(h.ok.wins p hp).1, by have := (h.ok.wins p hp).2; show p.last ≤ s.now + g; omega⟩, h.ok.subs⟩, h.inc, rfl⟩
theorem TN.tell {s : NSt} (h : TN s) : TN (tellS s) := ⟨h.ok.tell, h.inc, h.seq⟩
theorem mT_le {s : NSt} {g : Int} (h : TN s) (hg : 1 ≤ g) (hge : g / s.every < 64) : mT s g ≤ 64 := by
  have he := h.ok.every
  have h1 : (s.now + g) / s.every ≤ s.now / s.every + g / s.every + 1 := by
    have a := Int.emod_add_mul_ediv (s.now + g) s.every
    have b := Int.emod_add_mul_ediv s.now s.every
    have c := Int.emod_add_mul_ediv g s.every
    have a1 := Int.emod_nonneg (s.now + g) (show s.every ≠ 0 by omega)
    have b2 := Int.emod_lt_of_pos s.now (show 0 < s.every by omega)
    have c2 := Int.emod_lt_of_pos g (show 0 < s.every by omega)
    rcases Int.lt_or_le (s.now / s.every + g / s.every + 1) ((s.now + g) / s.every) with q | q
    · have := Int.mul_le_mul_of_nonneg_left (show s.now / s.every + g / s.every + 1 + 1 ≤ (s.now + g) / s.every by omega) (show 0 ≤ s.every by omega)
      rw [Int.mul_add, Int.mul_add, Int.mul_add] at this
      omega
    · exact q
  unfold mT
  omega
theorem gtick {b : Nat} {s : NSt} {f : Nat → Prop} {g : Int} (w : World) (h : NRep w b s f) (tn : TN s) (hg : 1 ≤ g ∧ g ≤ 1000) (hn : s.now + g ≤ 1073741824) (hge : g / s.every < 64) :
    Calls Tryz.prog 20 #[.pointer (some ⟨b, 0, none⟩), .int .i64 g] w fun e w' => ∃ (A1 : Option Addr) (c1 : Nat) (A' : Option Addr) (c' : Nat), e = .returned (.tuple #[.slice A1 (txT s g).length c1, .slice A' (tickF s g).2.length c', .int .i64 0]) ∧ w'.ownsRow w.heap.size 9 1 (.slice A1 (txT s g).length c1) (txT s g).length ((txT s g).map Value.string) ∧
      w'.ownsRow w.heap.size 46 3 (.slice A' (tickF s g).2.length c') (tickF s g).2.length (notesC (tickF s g).2) ∧ NRep w' b (tickF s g).1 f ∧ Kept f w w' := by
  have e1 := tn.ok.every
  have n0 := tn.ok.now
  have q1 := seq_le (n := s.now) (E := s.every) (by omega) e1.1
  have q2 := seq_le (n := s.now + g) (E := s.every) (by omega) e1.1
  have q3 : s.now / s.every ≤ (s.now + g) / s.every := Int.ediv_le_ediv (by omega) (by omega)
  have ht : ({ s with now := s.now + g, seq := (((s.now / s.every).toNat + mT s g : Nat) : Int) } : NSt) = tickS s g := by
    unfold tickS mT
    rw [show (((s.now / s.every).toNat + ((s.now + g) / s.every - s.now / s.every).toNat : Nat) : Int) = (s.now + g) / s.every by omega]
  have hm := mT_le tn hg.1 hge
  refine (tick_ok (inc := 0) (seq := (s.now / s.every).toNat) (m := mT s g) (g := g) (D := s.now / s.every) w h tn.ok (by rw [tn.inc]; rfl) (by rw [tn.seq]; omega) ⟨by omega, by omega⟩ hn hge rfl (by unfold mT; omega) (by omega) (fun t htt => by
    rw [htt, ht]
    exact (tn.tick hg.1 hn).ok)).mono ?_
  rintro e w' ⟨t, v, A', c', htt, rfl, hs, hn, rep, kept⟩
  rw [ht] at htt
  subst htt
  obtain ⟨A1, c1, rfl, _⟩ := own_form hs
  have hl : (txT s g).length = mT s g := sentB_len _ _ _ _
  rw [sent_map] at hs
  rw [hl]
  exact ⟨A1, c1, A', c', rfl, hs, hn, rep, kept⟩
def tkN (S : TSt) (g : Int) (j : Nat) : NSt := if S.dead j then S.nd j else (tickF (S.nd j) g).1
def txN (S : TSt) (g : Int) (j : Nat) : List ByteArray := if S.dead j then [] else txT (S.nd j) g
def noN (S : TSt) (g : Int) (j : Nat) : List Note := if S.dead j then [] else (tickF (S.nd j) g).2
def twS (S : TSt) (g : Int) (k : Nat) : TSt := { S with nd := fun j => if j < k then tkN S g j else S.nd j, way := S.way ++ (List.range k).flatMap (txN S g) }
def twN (S : TSt) (g : Int) (k : Nat) : List Note := (List.range k).flatMap (noN S g)
def sumM (S : TSt) (g : Int) (k : Nat) : Nat := ((List.range k).flatMap (txN S g)).length
theorem flat_succ {α : Type} (F : Nat → List α) (k : Nat) : (List.range (k + 1)).flatMap F = (List.range k).flatMap F ++ F k := by rw [List.range_succ, List.flatMap_append]; simp
theorem sumM_succ (S : TSt) (g : Int) (k : Nat) : sumM S g (k + 1) = sumM S g k + (txN S g k).length := by unfold sumM; rw [flat_succ, List.length_append]
theorem sumM_mono (S : TSt) (g : Int) {j k : Nat} (h : j ≤ k) : sumM S g j ≤ sumM S g k := by
  induction k with
  | zero => obtain rfl : j = 0 := by omega
            exact Nat.le_refl _
  | succ k ih =>
    rcases Nat.eq_or_lt_of_le h with rfl | h
    · exact Nat.le_refl _
    · have := ih (by omega); rw [sumM_succ]; omega
/-- What is asked of a town that ticks. -/
structure TickOK (S : TSt) (g : Int) : Prop where
  n : S.n ≤ 5
  gb : 1 ≤ g ∧ g ≤ 1000
  node : ∀ j, j < S.n → TN (S.nd j)
  room : ∀ j, j < S.n → S.dead j = false → (S.nd j).now + g ≤ 1073741824 ∧ g / (S.nd j).every < 64
  way : S.way.length ≤ 1000
theorem notes_le {S : TSt} {g : Int} (h : TickOK S g) : ∀ k, k ≤ S.n → (twN S g k).length ≤ 8 * k
  | 0, _ => by simp [twN]
  | k + 1, hk => by
    have ih := notes_le h k (by omega)
    have e : twN S g (k + 1) = twN S g k ++ noN S g k := flat_succ _ _
    have h8 : (noN S g k).length ≤ 8 := by
      unfold noN
      split
      · simp
      · exact Nat.le_trans (told_le _ _) (h.node k (by omega)).ok.subs
    rw [e, List.length_append]
    omega
theorem own_cells0 {w : World} {base e size n c : Nat} {ad : Addr} {xs : List Value} (h : w.ownsRow base e size (.slice (some ad) n c) n xs) : ∀ j u, xs[j]? = some u → w.cell? (ad.add j) = some u := by
  intro j u hu
  have h4 := h
  rcases h.2 with ⟨he, h0'⟩ | ⟨g, c', cur, he, _, hg, hnc, hcm, hcs, htk⟩
  · cases he
  simp only [Value.slice.injEq, Option.some.injEq] at he
  obtain ⟨rfl, _, rfl⟩ := he
  exact h4.cells (g := g) rfl j u hu
/-- append(own, other...), both rows of the call's own; where the row then lies. -/
theorem wpList_append_rowG {w : World} {ops : Array Oper} {rest : List Oper} {o : Oper} {a : Act} {Q : Exit → Act → World → Prop} (hgd : o.guard = none) (s x : Operand) (t : TypeId)
    (ho : o.op = .call { callee := .builtin .append, args := #[s, x], argTypes := #[t, t] })
    (base base2 e : Nat) (i : TypeInfo) (z : Value) (size bytes : Nat) (ht : Tryz.prog.underlying t = some (.slice e)) (hi : Tryz.prog.info? e = some i) (hz : i.zero = some z)
    (hsize : i.size = size) (hby : i.bytes = bytes) (hzs : z.cells.size = size) (hsz : 0 < size)
    (v : Value) (n : Nat) (xs : List Value) (hs : a.eval s = v) (hown : w.ownsRow base e size v n xs)
    (A : Option Addr) (m c : Nat) (ys : List Value) (hx : a.eval x = .slice A m c) (hr : w.ownsRow base2 e size (.slice A m c) m ys) (h1 : ∀ u ∈ ys, u.oneCell' = true)
    (h63 : n + m ≤ maxLen) (hbytes : (n + m) * bytes ≤ 140737488355328) (hbase : base ≤ w.heap.size)
    (h : ∀ v' w', w'.ownsRow base e size v' (n + m) (xs ++ ys) → w.grownBy w' v.ownBlock → (v'.ownBlock = v.ownBlock ∨ v'.ownBlock = some w.heap.size) → wpList Tryz.prog ops Q rest (a.put o.dst v') w') : wpList Tryz.prog ops Q (o :: rest) a w := by
  rcases A with _ | ad
  · obtain ⟨A', c', he, h1, h2, h3⟩ := own_form hr
    simp only [Value.slice.injEq] at he
    obtain ⟨rfl, _, rfl⟩ := he
    obtain ⟨rfl, rfl⟩ := h3 rfl
    have e0 : ys = [] := by have := hr.1; exact List.eq_nil_of_length_eq_zero (by simpa using this)
    subst e0
    have hrun := run_append_owned_none (P := Tryz.prog) (w := w) base t o.type e i size ht hi v n _ hown
    refine wpList_plain hgd fun K hK => ?_
    unfold Oper.wp
    simp [execOp, ho, resolve, invoke, builtin, hs, hx, hrun, Result.andThen]
    exact hK _ _ (h v w (by simpa using hown) ⟨rfl, rfl, rfl, Nat.le_refl _, fun _ _ _ => rfl⟩ (.inl rfl))
  · exact wpList_append_own_at w hgd s x t ho base e i z size bytes ht hi hz hsize hby hzs hsz v n xs hs hown ad m c ys hx hr.1 (own_cells0 hr) h1 h63 hbytes hbase (fun v' w' h2 h3 _ h5 => h v' w' h2 h3 h5)
theorem noteC_one (L : List Note) : ∀ u ∈ notesC L, u.oneCell' = true := by
  intro u hu
  obtain ⟨s, _, hs⟩ := List.mem_flatMap.1 hu
  simp [noteC] at hs
  rcases hs with rfl | rfl | rfl <;> rfl
theorem notesC_app (L M : List Note) : notesC (L ++ M) = notesC L ++ notesC M := by simp [notesC]
theorem twS_dead {S : TSt} {g : Int} {k : Nat} (hd : S.dead k = true) : twS S g (k + 1) = twS S g k := by
  unfold twS
  have e1 : (fun j => if j < k + 1 then tkN S g j else S.nd j) = (fun j => if j < k then tkN S g j else S.nd j) := by
    funext j
    by_cases h : j = k
    · subst h
      rw [if_pos (by omega), if_neg (by omega)]
      unfold tkN
      rw [if_pos hd]
    · by_cases h2 : j < k
      · rw [if_pos (by omega), if_pos h2]
      · rw [if_neg (by omega), if_neg h2]
  rw [e1, flat_succ, show txN S g k = [] by unfold txN; rw [if_pos hd], List.append_nil]
theorem twN_dead {S : TSt} {g : Int} {k : Nat} (hd : S.dead k = true) : twN S g (k + 1) = twN S g k := by
  unfold twN
  rw [flat_succ, show noN S g k = [] by unfold noN; rw [if_pos hd], List.append_nil]
theorem twS_live {S : TSt} {g : Int} {k : Nat} (hd : S.dead k = false) : wayN (setN (twS S g k) k (tickF (S.nd k) g).1) ((twS S g k).way ++ txT (S.nd k) g) = twS S g (k + 1) := by
  unfold twS wayN setN
  have e1 : (fun j => if j = k then (tickF (S.nd k) g).1 else if j < k then tkN S g j else S.nd j) = (fun j => if j < k + 1 then tkN S g j else S.nd j) := by
    funext j
    by_cases h : j = k
    · subst h
      rw [if_pos rfl, if_pos (by omega)]
      unfold tkN
      rw [hd]
      rfl
    · rw [if_neg h]
      by_cases h2 : j < k
      · rw [if_pos h2, if_pos (by omega)]
      · rw [if_neg h2, if_neg (by omega)]
  show TSt.mk _ _ _ _ = TSt.mk _ _ _ _
  rw [e1, flat_succ, show txN S g k = txT (S.nd k) g by unfold txN; rw [hd]; rfl, List.append_assoc]
theorem twS_zero (S : TSt) (g : Int) : twS S g 0 = S := by
  unfold twS
  have e1 : (fun j => if j < 0 then tkN S g j else S.nd j) = S.nd := by funext j; rw [if_neg (by omega)]
  rw [e1]
  simp
theorem twN_live {S : TSt} {g : Int} {k : Nat} (hd : S.dead k = false) : twN S g (k + 1) = twN S g k ++ (tickF (S.nd k) g).2 := by
  unfold twN
  rw [flat_succ, show noN S g k = (tickF (S.nd k) g).2 by unfold noN; rw [hd]; rfl]
theorem sumM_bd {S : TSt} {g : Int} (h : TickOK S g) : ∀ k, k ≤ S.n → sumM S g k ≤ 64 * k
  | 0, _ => by simp [sumM]
  | k + 1, hk => by
    have ih := sumM_bd h k (by omega)
    have h8 : (txN S g k).length ≤ 64 := by
      unfold txN
      split
      · simp
      · rename_i hd
        unfold txT
        rw [sentB_len]
        exact mT_le (h.node k (by omega)) h.gb.1 (h.room k (by omega) (by simpa using hd)).2
    rw [sumM_succ]
    omega
theorem sumM_way {S : TSt} {g : Int} (k : Nat) : (twS S g k).way.length = S.way.length + sumM S g k := by unfold twS sumM; rw [List.length_append]
set_option maxRecDepth 100000 in
set_option maxHeartbeats 16000000 in
theorem ttick_ok {t : Nat} {S : TSt} {f : Nat → Prop} {g : Int} (w : World) (h : TRep w t S f) (ok : TickOK S g) :
    Calls Tryz.prog 23 #[.pointer (some ⟨t, 0, none⟩), .int .i64 g] w fun e w' =>
      (1000 < S.way.length + sumM S g S.n ∧ e = .returned (.tuple #[.slice none 0 0, .int .i64 10]) ∧ Below w.heap.size w w') ∨
      (S.way.length + sumM S g S.n ≤ 1000 ∧ ∃ A' c' f', e = .returned (.tuple #[.slice A' (twN S g S.n).length c', .int .i64 0]) ∧ w'.ownsRow w.heap.size 46 3 (.slice A' (twN S g S.n).length c') (twN S g S.n).length (notesC (twN S g S.n)) ∧
        TRep w' t (twS S g S.n) f' ∧ (∀ x, f' x → f x ∨ w.heap.size ≤ x) ∧ Kept f w w') := by
  obtain ⟨c, ga, gn, gd, ca, cn, cd, wv, bs, h⟩ := h
  obtain ⟨k0, k1, k2, k3, _⟩ := h.cells
  have tl : t < w.heap.size := h.lt t h.ft
  obtain ⟨Aw, cw, rfl, _, _, _⟩ := own_form h.way
  have HRep := Lib.hid h
  have HOk := Lib.hid ok
  obtain ⟨n, hn⟩ : ∃ n, S.n = n := ⟨_, rfl⟩
  obtain ⟨m, hm⟩ : ∃ m, S.way.length = m := ⟨_, rfl⟩
  have n5 := ok.n
  have m1000 := ok.way
  obtain ⟨g1, g2⟩ := ok.gb
  rw [hn] at k0 k1 k2 n5
  rw [hm] at k3 m1000
  rw [hn, hm]
  have HN := Lib.hid (And.intro hn hm)
  have g3 : decide (1000 < g) = false := by simp; omega
  have g4 : ¬ g < 1 := by omega
  clear h ok hn hm
  go_enter Tryz.func23, Tryz.ntmps23
  go_wp2_with fail
  go_loopw [6, 32] (fun v i wr => ∃ k : Nat, k ≤ n ∧ i = .int .i64 k ∧ v = .int .i64 ((m + sumM S g k : Nat) : Int) ∧ Below w.heap.size w wr) (fun _ i _ => n - (intOf i).toNat)
  case atStart => exact ⟨0, Nat.zero_le _, rfl, by simp [sumM], Below.refl _ _⟩
  case round =>
    obtain ⟨wx, rfl⟩ : ∃ z : World, z = wr := ⟨_, rfl⟩
    obtain ⟨k, hk, rfl, rfl, bel⟩ := hrel
    have szx := bel.size
    by_cases hlt : k < n
    · have hkS : k < S.n := by have := HN.out.1; omega
      have hT := HRep.out.below bel
      obtain ⟨q0, q1, q2, q3, _⟩ := hT.cells
      obtain ⟨p0, p1, p2, nr, tl2, nl2, dl2, al2⟩ := hT.parts hkS
      rw [HN.out.1] at q0 q1 q2
      rw [HN.out.2] at q3
      have tn := HOk.out.node k hkS
      have sb := sumM_bd HOk.out k (by omega)
      have sc := sumM_succ S g k
      obtain ⟨ev, hev⟩ : ∃ x, (S.nd k).every = x := ⟨_, rfl⟩
      obtain ⟨nw, hnw⟩ : ∃ x, (S.nd k).now = x := ⟨_, rfl⟩
      have evb := tn.ok.every
      have nwb := tn.ok.now
      have hroom := HOk.out.room k hkS
      rw [hev] at p0 evb hroom
      rw [hnw] at nwb hroom
      obtain ⟨M, hM⟩ : ∃ x, sumM S g k = x := ⟨_, rfl⟩
      obtain ⟨M', hM'⟩ : ∃ x, sumM S g (k + 1) = x := ⟨_, rfl⟩
      rw [hM] at sb sc
      rw [hM'] at sc
      rw [hM]
      have kw : IntKind.i64.wrap ((k : Int) + 1) = (k : Int) + 1 := IntWalk.i64_in _ (by omega)
      have HM' := Lib.hid hM'
      have hkn : (k : Int) < n := by omega
      cases hd : S.dead k with
      | true =>
        rw [hd] at p2
        have e0 : M' = M := by rw [sc]; unfold txN; rw [if_pos hd]; rfl
        subst e0
        clear sc hM hM' hd hev hnw tn hroom nr hT
        have HBe := Lib.hid bel
        clear bel
        go_wp2_with fail
        go_roundw
        case rel => exact ⟨k + 1, by omega, by go_num, by rw [HM'.out], HBe.out⟩
        case measure => simp [intOf]; omega
      | false =>
        rw [hd] at p2
        obtain ⟨r1, r2⟩ := hroom hd
        have hl : (txN S g k).length = ((nw + g) / ev - nw / ev).toNat := by
          unfold txN txT
          rw [if_neg (by rw [hd]; simp), sentB_len]
          unfold mT
          rw [hnw, hev]
        rw [hl] at sc
        obtain ⟨u, hu⟩ : ∃ u, nw + g = u := ⟨_, rfl⟩
        have d0 : nw / ev ≤ u / ev := Int.ediv_le_ediv (by omega) (by omega)
        have d1 := seq_le (n := nw) (E := ev) (by omega) evb.1
        have d2 := seq_le (n := u) (E := ev) (by omega) evb.1
        have d3 := seq_le (n := g) (E := ev) (by omega) evb.1
        have t1 : nw.tdiv ev = nw / ev := Int.tdiv_eq_ediv_of_nonneg (by omega)
        have t2 : u.tdiv ev = u / ev := Int.tdiv_eq_ediv_of_nonneg (by omega)
        have t3 : g.tdiv ev = g / ev := Int.tdiv_eq_ediv_of_nonneg (by omega)
        obtain ⟨x1, hx1⟩ : ∃ x, nw / ev = x := ⟨_, rfl⟩
        obtain ⟨x2, hx2⟩ : ∃ x, u / ev = x := ⟨_, rfl⟩
        obtain ⟨x3, hx3⟩ : ∃ x, g / ev = x := ⟨_, rfl⟩
        rw [hu, hx1, hx2] at sc
        rw [hx1] at d0 d1 t1
        rw [hx2] at d0 d2 t2
        rw [hx3] at d3 t3 r2
        rw [hu] at r1
        have vu : IntKind.i64.wrap (nw + g) = u := by rw [hu]; exact IntWalk.i64_in _ (by omega)
        have v1 : IntKind.i64.wrap x1 = x1 := IntWalk.i64_in _ (by omega)
        have v2 : IntKind.i64.wrap x2 = x2 := IntWalk.i64_in _ (by omega)
        have v3 : IntKind.i64.wrap x3 = x3 := IntWalk.i64_in _ (by omega)
        obtain ⟨dd, hdd⟩ : ∃ x, x2 - x1 = x := ⟨_, rfl⟩
        have v4 : IntKind.i64.wrap (x2 - x1) = dd := by rw [hdd]; exact IntWalk.i64_in _ (by omega)
        have v5 : IntKind.i64.wrap (((m + M : Nat) : Int) + dd) = ((m + M' : Nat) : Int) := by
          have : ((m + M : Nat) : Int) + dd = ((m + M' : Nat) : Int) := by omega
          rw [this]; exact IntWalk.i64_in _ (by omega)
        obtain ⟨y, hy⟩ : ∃ y : Int, ((m + M : Nat) : Int) = y := ⟨_, rfl⟩
        obtain ⟨y', hy'⟩ : ∃ y : Int, ((m + M' : Nat) : Int) = y := ⟨_, rfl⟩
        rw [hy, hy'] at v5
        have HY' := Lib.hid hy'
        have c1 : decide (1073741824 < u) = false := by simp; omega
        have c2 : decide (64 ≤ x3) = false := by simp; omega
        have ne0 : ¬ ev = 0 := by omega
        have ne1 : (ev == 0) = false := by simp; omega
        obtain ⟨Pk, Sk, nd⟩ := nr.at'
        rw [hnw] at nd
        have HNd := Lib.hid nd
        have ndl := nd.lt
        have HNow := Lib.hid (now_ok wx nd)
        have HBe := Lib.hid bel
        rw [hy]
        clear sc hM hM' hd hev hnw tn hroom nr hT hu hx1 hx2 hx3 hdd hl hy hy' nd bel d0 r1 r2
        go_wp2_with fail
        refine HNow.out.mono ?_
        rintro e w' ⟨rfl, rfl⟩
        go_wp2_with fail
        refine wp_region_quiet_all (Ext _) (by kernel_rfl) (by kernel_rfl) (Ext.drawn _) ?_
        repeat (first | go_big_quiet_skip | go_big_quiet_step (fail) | (refine BigFrame.wpQuiet_want rfl (fun K hK => ?_); apply Exists.intro; refine ⟨fun w2 h2 => ?_, ?_⟩; (next => (have g1 := Below.cells h2.below; have g2 := Below.frozens h2.below; (try simp only [World.size_alloc, World.size_setCell] at g1 g2); first | (go_simp; (go_at_call 31; refine h2.calls ((now_ok _ (HNd.out.same (h2.below.block _ ndl))).mono fun _ _ ⟨he, hw⟩ => ⟨he, hw ▸ Below.refl _ _⟩))) | (simp [go_sem, ↓IntWalk.iteOmega, *]; done) | (simp [go_sem, ↓IntWalk.iteOmega, *]; rfl)))); (go_simp; refine hK _ ?_; clear hK K))
        refine wpQuiet_nil ?_
        intro w2 h2
        have hb2 := h2.below
        clear h2
        have z2 := hb2.size
        have c2 := Below.cells hb2
        have f2 := Below.frozens hb2
        try simp only [World.size_alloc, World.size_setCell, World.size_drew] at z2 c2 f2
        go_wp2_with fail
        go_roundw
        case rel => exact ⟨k + 1, by omega, by go_num, by rw [HM'.out, HY'.out], HBe.out.trans (hb2.mono szx)⟩
        case measure => simp [intOf]; omega
    · obtain rfl : n = k := by omega
      have hT := HRep.out.below bel
      obtain ⟨q0, q1, q2, q3, _⟩ := hT.cells
      rw [HN.out.1] at q0 q1 q2
      rw [HN.out.2] at q3
      have HT := Lib.hid hT
      have HBe := Lib.hid bel
      have sb := sumM_bd HOk.out S.n (Nat.le_refl _)
      rw [HN.out.1] at sb
      obtain ⟨M, hM⟩ : ∃ x, m + sumM S g n = x := ⟨_, rfl⟩
      have HM := Lib.hid hM
      clear hT bel
      by_cases hfull : 1000 < M
      · have f1 : (1000 : Int) < (M : Int) := by omega
        rw [hM]
        clear hM
        go_wp2_with fail
        go_ret2
        exact .inl ⟨by rw [HM.out]; exact hfull, rfl, HBe.out⟩
      · have f1 : ¬ (1000 : Int) < (M : Int) := by omega
        rw [hM]
        clear hM
        obtain ⟨i1, hi1, hy0, hy1, hy2⟩ := info_parts info_str
        obtain ⟨i2, hi2, hw0, hw1, hw2⟩ := info_parts info_note
        go_wp2_with fail
        go_loopw [10, 84] (fun v i wy => ∃ (k : Nat) (A' : Option Addr) (c' : Nat) (f' : Nat → Prop) (cl : Nat → Nat) (wv : Value), k ≤ n ∧ i = .int .i64 k ∧ v = .slice A' (twN S g k).length c' ∧ wy.ownsRow w.heap.size 46 3 (.slice A' (twN S g k).length c') (twN S g k).length (notesC (twN S g k)) ∧ TRepC wy t (twS S g k) f' cl ga gn gd ca cn cd wv bs ∧ (∀ x, f' x → f x ∨ w.heap.size ≤ x) ∧ (∀ q, (Value.slice A' (twN S g k).length c').ownBlock = some q → ¬ f' q) ∧ Kept f w wy) (fun _ i _ => n - (intOf i).toNat)
        case atStart => exact ⟨0, none, 0, f, _, _, Nat.zero_le _, rfl, rfl, World.ownsRow_nil _ _ _ _, by rw [twS_zero]; exact HT.out, fun x hx => .inl hx, (fun q hq => by simp [Value.ownBlock] at hq), Kept.of_below HBe.out⟩
        case round =>
          obtain ⟨wy, rfl⟩ : ∃ z : World, z = wr := ⟨_, rfl⟩
          obtain ⟨k, A', c', f', cl, wv, hk, rfl, rfl, hown, hT, hf', hno, hkept⟩ := hrel
          by_cases hlt : k < n
          · have hkS : k < S.n := by have := HN.out.1; omega
            have hkS' : k < (twS S g k).n := hkS
            obtain ⟨q0, q1, q2, q3, qfz⟩ := hT.cells
            obtain ⟨p0, p1, p2, nr, tl2, nl2, dl2, al2⟩ := hT.parts hkS'
            rw [show (twS S g k).n = n from HN.out.1] at q0 q1 q2
            rw [show (twS S g k).dead k = S.dead k from rfl] at p2
            rw [show (twS S g k).nd k = S.nd k from if_neg (by omega)] at nr
            obtain ⟨Aw2, cw2, rfl, _, _, _⟩ := own_form hT.way
            have hwl := sumM_way (S := S) (g := g) k
            have hmono := sumM_mono S g (show k ≤ n by omega)
            have hM1 := HM.out
            rw [HN.out.2] at hwl
            have tn := HOk.out.node k hkS
            have hroom := HOk.out.room k hkS
            have nle := notes_le HOk.out k (by omega)
            have kw : IntKind.i64.wrap ((k : Int) + 1) = (k : Int) + 1 := IntWalk.i64_in _ (by omega)
            have hkn : (k : Int) < n := by omega
            obtain ⟨L, hL⟩ : ∃ x, (twS S g k).way.length = x := ⟨_, rfl⟩
            rw [hL] at q3 hwl
            have HL := Lib.hid hL
            have HT2 := Lib.hid hT
            have HOw := Lib.hid hown
            have HF := Lib.hid hf'
            have HNo := Lib.hid hno
            have HKp := Lib.hid hkept
            have szy := hkept.size
            cases hd : S.dead k with
            | true =>
              rw [hd] at p2
              have e1 := twS_dead (g := g) hd
              have e2 := twN_dead (g := g) hd
              have HE := Lib.hid (And.intro e1 e2)
              clear e1 e2 hd hL hT hown hf' hno hkept hroom tn nr hwl hmono
              go_wp2_with fail
              go_roundw
              case rel => exact ⟨k + 1, A', c', f', cl, _, by omega, by go_num, by rw [HE.out.2], by rw [HE.out.2]; exact HOw.out, by rw [HE.out.1]; exact HT2.out, HF.out, by rw [HE.out.2]; exact HNo.out, HKp.out⟩
              case measure => simp [intOf]; omega
            | false =>
              rw [hd] at p2
              obtain ⟨r1, r2⟩ := hroom hd
              have HTk := Lib.hid (gtick wy nr tn HOk.out.gb r1 r2)
              have hl1 : (txT (S.nd k) g).length ≤ 64 := by unfold txT; rw [sentB_len]; exact mT_le tn HOk.out.gb.1 r2
              have hl2 : (tickF (S.nd k) g).2.length ≤ 8 := Nat.le_trans (told_le _ _) tn.ok.subs
              have HE := Lib.hid (And.intro (twS_live (g := g) hd) (twN_live (g := g) hd))
              obtain ⟨X1, hX1⟩ : ∃ x, txT (S.nd k) g = x := ⟨_, rfl⟩
              obtain ⟨s2, hs2⟩ : ∃ x, (tickF (S.nd k) g).1 = x := ⟨_, rfl⟩
              obtain ⟨N2, hN2⟩ : ∃ x, (tickF (S.nd k) g).2 = x := ⟨_, rfl⟩
              have hev : s2.every = (S.nd k).every := by rw [← hs2]; rfl
              have HEv := Lib.hid (show s2.every = ((twS S g k).nd k).every by rw [show (twS S g k).nd k = S.nd k from if_neg (by omega)]; exact hev)
              rw [hX1, hs2, hN2] at HTk HE
              rw [hX1] at hl1
              rw [hN2] at hl2
              obtain ⟨x1, hx1⟩ : ∃ x, X1.length = x := ⟨_, rfl⟩
              obtain ⟨x2, hx2⟩ : ∃ x, N2.length = x := ⟨_, rfl⟩
              obtain ⟨o1, ho1⟩ : ∃ x, (twN S g k).length = x := ⟨_, rfl⟩
              rw [hx1, hx2] at HTk
              rw [hx1] at hl1
              rw [hx2] at hl2
              rw [ho1] at nle HOw HNo
              have HXl := Lib.hid (And.intro hx1 (And.intro hx2 ho1))
              have hL1000 : L ≤ 1000 := by omega
              have HWl := Lib.hid hwl
              rw [ho1]
              clear hd hL hT hown hf' hno hkept hroom tn nr r1 r2 hX1 hs2 hN2 hev hx1 hx2 ho1 p0 hwl hmono hM1
              go_wp2_with fail
              refine HTk.out.mono ?_
              rintro e w2 ⟨A1, c1, A2, c2, rfl, own1, own2, rep2, k2⟩
              have z2 := k2.size
              have N := HT2.out.node (M := wy.heap.size) hkS' rep2 ⟨Nat.le_refl _, z2⟩ (fun x hx => .inl hx) k2 HEv.out
              have O2 := own_same (f := fun x => ¬ f' x) HOw.out (fun q hq => HNo.out q hq) ⟨z2, fun x hx hfx => k2.block x hx (fun e => hfx e.1)⟩
              have lt2 := HOw.out.lt
              obtain ⟨_, _, _, y3, yf⟩ := N.1.cells
              have lt' := HT2.out.lt
              have ft := HT2.out.ft
              have wfb : ∀ q, (Value.slice Aw2 (twS S g k).way.length cw2).ownBlock = some q → f' q ∧ cl q = 4 := by obtain ⟨_, _, _, _, _, _, _, _, _, h10, _⟩ := HT2.out; exact h10
              have W2 : w2.ownsRow 0 9 1 (.slice Aw2 L cw2) L ((twS S g k).way.map Value.string) := by have := N.1.way; rw [show (setN (twS S g k) k s2).way = (twS S g k).way from rfl, HL.out] at this; exact this
              have y3' : w2.cell? ⟨t, 3, none⟩ = some (.slice Aw2 L cw2) := by rw [← HL.out]; exact y3
              rw [HL.out] at wfb
              have HN2 := Lib.hid N
              have HW2 := Lib.hid W2
              have HO2 := Lib.hid O2
              have HO1 := Lib.hid own1
              have HP2 := Lib.hid own2
              have HLt := Lib.hid (And.intro lt' (And.intro ft (And.intro wfb lt2)))
              have K2 := Lib.hid k2
              have tlt : t < w2.heap.size := by have := lt' t ft; omega
              have sy : w.heap.size ≤ w2.heap.size := by omega
              clear own1 own2 rep2 k2 N O2 W2 lt2 lt' ft wfb y3
              go_wp2_with (at_builtin; refine wpList_append_rowG rfl _ _ 56 rfl 0 wy.heap.size 9 i1 (.string ⟨#[]⟩) 1 16 Tryz.underlying56 hi1 hy0 hy1 hy2 rfl (by decide) _ L _ rfl HW2.out A1 x1 c1 _ rfl HO1.out (strs_one _) (by unfold maxLen; omega) (by omega) (Nat.zero_le _) ?_)
              intro v3 w3 own3 gr3 loc3
              obtain ⟨A3, c3, rfl, _, _, _⟩ := own_form own3
              have z3 := gr3.size
              have O3 := Lib.hid (own_same (f := fun x => ¬ f' x) HO2.out (fun q hq => HNo.out q hq) ⟨z3, fun x hx hfx => gr3.block x hx (fun e => hfx (HLt.out.2.2.1 x e.symm).1)⟩)
              have P3 := Lib.hid (own_same (f := fun x => wy.heap.size ≤ x) HP2.out (fun q hq => (HP2.out.lt q hq).1) ⟨z3, fun x hx hfx => gr3.block x hx (fun e => by have := HLt.out.1 x (HLt.out.2.2.1 x e.symm).1; omega)⟩)
              have HW3 := Lib.hid own3
              have HG3 := Lib.hid gr3
              have HLoc := Lib.hid loc3
              clear own3 gr3 loc3
              go_wp2_with (at_builtin; refine wpList_append_rowG rfl _ _ 42 rfl w.heap.size wy.heap.size 46 i2 (.agg #[.string ⟨#[]⟩, .int .i64 0, .bool false]) 3 32 Tryz.underlying42 hi2 hw0 hw1 hw2 rfl (by decide) _ o1 _ rfl O3.out A2 x2 c2 _ rfl P3.out (noteC_one _) (by unfold maxLen; omega) (by omega) (by omega) ?_)
              intro v4 w4 own4 gr4 loc4
              obtain ⟨A4, c4, rfl, _, _, _⟩ := own_form own4
              have z4 := gr4.size
              have tq : some t ≠ (Value.slice A' o1 c').ownBlock := fun e => HNo.out t e.symm HLt.out.2.1
              have tw : some t ≠ (Value.slice Aw2 L cw2).ownBlock := fun e => by
                have h1 := (HLt.out.2.2.1 t e.symm).2
                obtain ⟨_, _, _, _, _, _, _, _, h9, _⟩ := HT2.out
                omega
              have y4 : w4.cell? ⟨t, 3, none⟩ = some (.slice Aw2 L cw2) := (World.cell?_of_block (a := ⟨t, 3, none⟩) ((gr4.block t (by omega) tq).trans (HG3.out.block t tlt tw))).trans y3'
              have yf4 : ∀ o, w4.frozen? ⟨t, o, none⟩ = false := fun o => (World.frozen?_of_block ((gr4.block t (by omega) tq).trans (HG3.out.block t tlt tw))).trans (yf o)
              have HG4 := Lib.hid gr4
              have HO4 := Lib.hid own4
              have HLoc4 := Lib.hid loc4
              clear own4 gr4 loc4 y3' yf
              have hfx : ∀ x, ext f' wy.heap.size wy.heap.size x → f' x := fun x hx => hx.elim (fun h => h) (fun h => by omega)
              have same24 : Same (fun x => ext f' wy.heap.size wy.heap.size x ∧ (if wy.heap.size ≤ x then k + 5 else cl x) ≠ 4) w2 w4 := ⟨by omega, fun x hx hfx2 => by
                have h1 := hfx x hfx2.1
                have h2 := HLt.out.1 x h1
                have h3 : cl x ≠ 4 := fun e => hfx2.2 (by rw [if_neg (by omega)]; exact e)
                exact (HG4.out.block x (by omega) (fun e => HNo.out x e.symm h1)).trans (HG3.out.block x (by omega) (fun e => h3 (HLt.out.2.2.1 x e.symm).2))⟩
              have lw3 := HW3.out.lt
              have ho3 : w4.ownsRow 0 9 1 (.slice A3 (L + x1) c3) (L + x1) (((twS S g k).way.map Value.string) ++ X1.map Value.string) := own_same (f := fun x => some x ≠ (Value.slice A' o1 c').ownBlock) HW3.out (fun q hq e => by
                rcases HLoc.out with h | h
                · rw [h] at hq
                  exact HNo.out q e.symm (HLt.out.2.2.1 q hq).1
                · rw [hq] at h
                  simp only [Option.some.injEq] at h
                  have := (HLt.out.2.2.2 q e.symm).2
                  omega) ⟨z4, fun x hx hne => HG4.out.block x hx hne⟩
              rw [← List.map_append] at ho3
              have hll : ((twS S g k).way ++ X1).length = L + x1 := by rw [List.length_append, HL.out, HXl.out.1]
              rw [← hll] at ho3
              have TW := HN2.out.1.setWay (L := (twS S g k).way ++ X1) (M := w3.heap.size) same24 ⟨z3, z4⟩ ho3 (fun q hq => by
                have hq' : (Value.slice A3 (L + x1) c3).ownBlock = some q := by rw [← hll]; exact hq
                rcases HLoc.out with h | h
                · rw [hq'] at h
                  refine .inl ?_
                  have h2 : (Value.slice Aw2 L cw2).ownBlock = some q := h.symm
                  rw [HL.out]
                  exact h2
                · rw [hq'] at h
                  simp only [Option.some.injEq] at h
                  exact .inr ⟨by omega, (lw3 q hq').2⟩)
              rw [HE.out.1] at TW
              rw [hll] at TW
              have TW' := Lib.hid TW
              have lo4 := HO4.out.lt
              have ff : ∀ x, ext (ext f' wy.heap.size wy.heap.size) w2.heap.size w3.heap.size x → f' x ∨ (w2.heap.size ≤ x ∧ x < w3.heap.size) := fun x hx => hx.imp (hfx x) (fun h => h)
              have nb4 : ∀ q, (Value.slice A4 (o1 + x2) c4).ownBlock = some q → ¬ ext (ext f' wy.heap.size wy.heap.size) w2.heap.size w3.heap.size q := fun q hq hx => by
                rcases HLoc4.out with h | h
                · rw [hq] at h
                  rcases ff q hx with h2 | h2
                  · exact HNo.out q h.symm h2
                  · have := (HLt.out.2.2.2 q h.symm).2; omega
                · rw [hq] at h
                  simp only [Option.some.injEq] at h
                  rcases ff q hx with h2 | h2
                  · have := HLt.out.1 q h2; omega
                  · omega
              have own5 := Lib.hid (own_elsewhere HO4.out (b := t) (fun e => nb4 t e (.inl (.inl HLt.out.2.1))) 3 (.slice A3 (L + x1) c3))
              have K5 : Kept f w (w4.setCell ⟨t, 3, none⟩ (.slice A3 (L + x1) c3)) := by
                refine ⟨HG4.out.os.trans (HG3.out.os.trans (K2.out.os.trans HKp.out.os)), HG4.out.tape.trans (HG3.out.tape.trans (K2.out.tape.trans HKp.out.tape)), HG4.out.output.trans (HG3.out.output.trans (K2.out.output.trans HKp.out.output)), by simp only [World.size_setCell]; omega, fun x hx hfx3 => ?_⟩
                have nf : ¬ f' x := fun h => (HF.out x h).elim hfx3 (fun h => by omega)
                have hxt : x ≠ t := fun e => nf (e ▸ HLt.out.2.1)
                exact (Below.heap_setCell _ _ _ _ (fun e => hxt e)).trans ((HG4.out.block x (by omega) (fun e => by have := (HLt.out.2.2.2 x e.symm); have h9 := HOw.out.lt x e.symm; omega)).trans ((HG3.out.block x (by omega) (fun e => nf (HLt.out.2.2.1 x e.symm).1)).trans ((K2.out.block x (by omega) (fun e => nf e.1)).trans (HKp.out.block x hx hfx3))))
              have HK5 := Lib.hid K5
              have HNb := Lib.hid nb4
              have HFf := Lib.hid (fun x (hx : ext (ext f' wy.heap.size wy.heap.size) w2.heap.size w3.heap.size x) => (show f x ∨ w.heap.size ≤ x from (ff x hx).elim (HF.out x) (fun h => .inr (by omega))))
              clear hfx same24 lw3 ho3 hll TW lo4 ff nb4 K5
              go_wp2_with fail
              have e2 : (twN S g (k + 1)).length = o1 + x2 := by rw [HE.out.2, List.length_append, HXl.out.2.2, HXl.out.2.1]
              go_roundw
              case rel =>
                refine ⟨k + 1, A4, c4, _, _, _, by omega, by go_num, by rw [e2], ?_, TW'.out, HFf.out, ?_, HK5.out⟩
                · rw [e2, HE.out.2, notesC_app]
                  exact own5.out
                · rw [e2]
                  exact HNb.out
              case measure => simp [intOf]; omega
          · obtain rfl : n = k := by omega
            have HOw := Lib.hid hown
            have HT2 := Lib.hid hT
            have HF := Lib.hid hf'
            have HKp := Lib.hid hkept
            clear hown hT hf' hno hkept
            go_wp2_with fail
            go_ret2
            exact .inr ⟨by have := HM.out; omega, A', c', f', rfl, HOw.out, ⟨_, _, _, _, _, _, _, _, _, HT2.out⟩, HF.out, HKp.out⟩
end Go.Proofs.YtpomdnglknbanaaGreat
namespace Go.Proofs.YtpomdnglknbanaaGreat
open Go Go.RowKit
def zeroT : Value := .string ⟨#[]⟩
theorem zeroT_cells : zeroT.cells.size = 1 := rfl
theorem zeroT_one : ∀ v ∈ zeroT.cells, v.oneCell' = true := by
  intro v hv
  simp [zeroT, Value.cells] at hv
  subst hv
  rfl
theorem zeroT_run : ∀ w, (zeroValue 9).run Tryz.prog w = .ok zeroT w := Tryz.zeroValue9
theorem erase_map (L : List ByteArray) (k : Nat) : (L.map Value.string).take (k * 1) ++ (L.map Value.string).drop ((k + 1) * 1) = (L.eraseIdx k).map Value.string := by
  rw [List.eraseIdx_eq_take_drop_succ, Nat.mul_one, Nat.mul_one, List.map_append, List.map_take, List.map_drop]
end Go.Proofs.YtpomdnglknbanaaGreat

/-
  Rows of strings: read, appended to one another, slices.Equal, slices.Concat, slices.Grow.
-/
import Derived.Test.YtpomdnglknbanaaKs
import Derived.Test.YtpomdnglknbanaaShelfG
import Derived.Laws.AppendOwnNone
set_option linter.unusedSimpArgs false
set_option linter.unusedVariables false
namespace Go.Proofs.Ytpomdnglknbanaa
open Go Go.RowKit
def TRow (w : World) (A : Option Addr) (n : Nat) (L : List ByteArray) : Prop :=
  L.length = n ∧ (0 < n → ∃ b off, A = some ⟨b, off, none⟩ ∧ b < w.heap.size ∧ ∀ k, k < n → w.cell? ⟨b, off + k, none⟩ = some (.string (L.getD k ⟨#[]⟩)))
theorem TRow.below {w w' : World} {A : Option Addr} {n : Nat} {L : List ByteArray} (h : TRow w A n L) (hb : Below w.heap.size w w') : TRow w' A n L := by
  refine ⟨h.1, fun h0 => ?_⟩
  obtain ⟨b, off, hA, lb, hp⟩ := h.2 h0
  exact ⟨b, off, hA, Nat.lt_of_lt_of_le lb hb.size, fun k hk => (hb.cell (p := ⟨b, _, none⟩) lb).trans (hp k hk)⟩
theorem TRow.at {w : World} {A : Option Addr} {n : Nat} {L : List ByteArray} (h : TRow w A n L) {k : Nat} (hk : k < n) : ∃ b off, A = some ⟨b, off, none⟩ ∧ b < w.heap.size ∧ w.cell? ⟨b, off + k, none⟩ = some (.string (L.getD k ⟨#[]⟩)) := by
  obtain ⟨b, off, hA, lb, hp⟩ := h.2 (by omega)
  exact ⟨b, off, hA, lb, hp k hk⟩
theorem trow_own {w : World} {base n c : Nat} {A : Option Addr} {L : List ByteArray} (h : w.ownsRow base 9 1 (.slice A n c) n (L.map Value.string)) : TRow w A n L := by
  have hn : L.length = n := by have := h.1; simpa using this
  refine ⟨hn, fun h0 => ?_⟩
  have h4 := h
  rcases h.2 with ⟨_, h0'⟩ | ⟨g, c', cur, he, _, hg, hnc, hcm, hcs, htk⟩
  · omega
  simp only [Value.slice.injEq] at he
  obtain ⟨rfl, _, rfl⟩ := he
  refine ⟨g, 0, rfl, (Array.getElem?_eq_some_iff.1 hg).1, fun k hk => ?_⟩
  have := h4.cells (g := g) rfl k (.string (L.getD k ⟨#[]⟩)) (by rw [List.getElem?_map, List.getElem?_eq_getElem (by omega), List.getD_eq_getElem?_getD, List.getElem?_eq_getElem (by omega)]; rfl)
  rw [Go.WideShapes.add_plain, Nat.zero_add] at this
  rw [Nat.zero_add]
  exact this
theorem strs_one (L : List ByteArray) : ∀ u ∈ L.map Value.string, u.oneCell' = true := by
  intro u hu
  obtain ⟨s, _, rfl⟩ := List.mem_map.1 hu
  rfl
theorem trow_cells0 {w : World} {base n c : Nat} {ad : Addr} {xs : List Value} (h : w.ownsRow base 9 1 (.slice (some ad) n c) n xs) : ∀ j u, xs[j]? = some u → w.cell? (ad.add j) = some u := by
  intro j u hu
  have h4 := h
  rcases h.2 with ⟨he, h0'⟩ | ⟨g, c', cur, he, _, hg, hnc, hcm, hcs, htk⟩
  · cases he
  simp only [Value.slice.injEq, Option.some.injEq] at he
  obtain ⟨rfl, _, rfl⟩ := he
  have := h4.cells (g := g) rfl j u hu
  exact this
/-- append(own, other...), both rows of strings. -/
theorem wpList_append_rowT {w : World} {ops : Array Oper} {rest : List Oper} {o : Oper} {a : Act} {Q : Exit → Act → World → Prop} (hw : Region.wanted o (yielded ops a.tmps) = true) (s x : Operand)
    (ho : o.op = .call { callee := .builtin .append, args := #[s, x], argTypes := #[35, 35] })
    (base base2 : Nat) (v : Value) (n : Nat) (xs : List ByteArray) (hs : a.eval s = v) (hown : w.ownsRow base 9 1 v n (xs.map Value.string))
    (A : Option Addr) (m c : Nat) (ys : List ByteArray) (hx : a.eval x = .slice A m c) (hr : w.ownsRow base2 9 1 (.slice A m c) m (ys.map Value.string)) (h63 : n + m ≤ 1000000) (hbase : base ≤ w.heap.size)
    (h : ∀ v' w', w'.ownsRow base 9 1 v' (n + m) ((xs ++ ys).map Value.string) → w.grownBy w' v.ownBlock → wpList Try.prog ops Q rest (a.put o.dst v') w') : wpList Try.prog ops Q (o :: rest) a w := by
  obtain ⟨i, hi, hz, hsize, hby⟩ := info_parts info_str
  unfold wpList
  rw [if_pos hw]
  left
  rcases A with _ | ad
  · obtain ⟨A', c', he, h1, h2, h3⟩ := own_form hr
    simp only [Value.slice.injEq] at he
    obtain ⟨rfl, _, rfl⟩ := he
    obtain ⟨rfl, rfl⟩ := h3 rfl
    have e0 : ys = [] := by have := hr.1; exact List.eq_nil_of_length_eq_zero (by simpa using this)
    subst e0
    have hrun := run_append_owned_none (P := Try.prog) (w := w) base 35 o.type 9 i 1 Try.underlying35 hi v n _ hown
    unfold Oper.wp
    simp [execOp, ho, resolve, invoke, builtin, hs, hx, hrun, Result.andThen]
    exact h v w (by simpa using hown) ⟨rfl, rfl, rfl, Nat.le_refl _, fun _ _ _ => rfl⟩
  · refine wp_append_own w s x 35 ho base 9 i (.string ⟨#[]⟩) 1 16 Try.underlying35 hi hz hsize hby rfl (by decide) v n _ hs hown ad m c (ys.map Value.string) hx (by have := hr.1; simpa using this) (trow_cells0 hr) (strs_one ys) (by unfold maxLen; omega) (by omega) hbase ?_
    intro v' w' h2 h3 _
    exact h v' w' (by simpa using h2) h3
theorem heap_newT (w : World) (o : Obj) : (w.drew.alloc o).heap[w.heap.size]? = some o := by
  show (w.heap.push o)[w.heap.size]? = some o
  simp
set_option maxRecDepth 100000 in
set_option maxHeartbeats 4000000 in
/-- slices.Grow(nil, n). -/
theorem grow_nilT (n : Nat) (w : World) (hn : n ≤ 1000000) :
    Calls Try.prog 113 #[.slice none 0 0, .int .i64 n] w fun e w' => ∃ A c, e = .returned (.slice A 0 c) ∧ w'.ownsRow w.heap.size 9 1 (.slice A 0 c) 0 [] ∧ Below w.heap.size w w' := by
  obtain ⟨i0, hi, hz0, hz1, hz2⟩ := info_parts info_str
  rcases Nat.eq_zero_or_pos n with h | h
  · subst h
    refine (Any8.slices_Grow_room Try.growS none 0 0 0 w (Nat.le_refl _) (by omega) (by omega) (by omega)).mono ?_
    rintro e w' ⟨rfl, rfl⟩
    exact ⟨none, 0, rfl, World.ownsRow_nil _ _ _ _, Below.refl _ _⟩
  · refine (Any8.slices_Grow_grow Try.growS i0 (.string ⟨#[]⟩) hi hz0 (by rw [hz1]; decide) none 0 0 n [] w (Nat.le_refl _) (by omega) (by rw [hz2]; omega) (by omega) (by simp) (fun _ => rfl) (fun a h => by cases h)).mono ?_
    rintro e w' ⟨rfl, rfl⟩
    have g1 := grownCap_ge w (0 + n) 0 9
    have g2 := grownCap_le_maxLen w (0 + n) 0 9 (by unfold maxLen; omega)
    refine ⟨some ⟨w.heap.size, 0, none⟩, _, rfl, ⟨rfl, .inr ⟨w.heap.size, _, _, rfl, Nat.le_refl _, heap_newT w _, Nat.zero_le _, g2, ?_, by simp⟩⟩, ((Below.refl _ w).drew).alloc (Nat.le_refl _) _⟩
    change _ = grownCap w (0 + n) 0 9 * 1
    obtain ⟨G, hG⟩ : ∃ G, grownCap w (0 + n) 0 9 = G := ⟨_, rfl⟩
    change ((#[] : Array Value) ++ Builtin.zeroCells (Value.string ⟨#[]⟩).cells (0 + n - 0) ++ Builtin.zeroCells (Value.string ⟨#[]⟩).cells (grownCap w (0 + n) 0 9 - (0 + n))).size = _
    rw [hG] at g1 ⊢
    simp [Builtin.zeroCells, Value.cells]
    omega
set_option maxRecDepth 100000 in
set_option maxHeartbeats 8000000 in
/-- slices.Concat of two. -/
theorem concatT_ok (B base base' : Nat) (A A' : Option Addr) (n c n' c' : Nat) (l l' : List ByteArray) (w : World) (hB0 : w.cell? ⟨B, 0, none⟩ = some (.slice A n c)) (hB1 : w.cell? ⟨B, 1, none⟩ = some (.slice A' n' c')) (hB : B < w.heap.size)
    (hr : w.ownsRow base 9 1 (.slice A n c) n (l.map Value.string)) (hr' : w.ownsRow base' 9 1 (.slice A' n' c') n' (l'.map Value.string)) (hm : n ≤ 1000) (hm' : n' ≤ 1000) :
    Calls Try.prog 50 #[.slice (some ⟨B, 0, none⟩) 2 2] w fun e w' => ∃ A2 c2, e = .returned (.slice A2 (n + n') c2) ∧ w'.ownsRow w.heap.size 9 1 (.slice A2 (n + n') c2) (n + n') ((l ++ l').map Value.string) ∧ Below w.heap.size w w' := by
  have hg : ∀ w, _ := fun w => grow_nilT (n + n') w (by omega)
  simp only [Int.natCast_add] at hg
  have HG := Lib.hid hg
  have HR := Lib.hid hr
  have HR' := Lib.hid hr'
  have q1 : ¬ ((n : Int) < 0) := by omega
  have q2 : ¬ ((n : Int) + n' < 0) := by omega
  have qa := alloc_cells
  have qf := alloc_frozens
  clear hr hr' hg
  go_enter Try.func50, Try.ntmps50
  go_wp2_with fail
  refine wp_loop_rounds 3 ?_
  iterate 3 (rw [rounds_succ]; go_wp2_with fail)
  refine (HG.out _).mono ?_
  rintro e w1 ⟨A1, c1, rfl, own1, hb1⟩
  have z1 := hb1.size
  have p0 := (hb1.cell (p := ⟨B, 0, none⟩) hB).trans hB0
  have p1 := (hb1.cell (p := ⟨B, 1, none⟩) hB).trans hB1
  have own1' : w1.ownsRow w.heap.size 9 1 (.slice A1 0 c1) 0 (([] : List ByteArray).map Value.string) := own1
  clear own1
  go_wp2_with fail
  refine wp_loop_rounds 3 ?_
  rw [rounds_succ]
  go_wp2_with (at_builtin; refine wpList_append_rowT rfl _ _ rfl w.heap.size base _ 0 [] rfl own1' A n c l rfl (own_below HR.out hb1) (by omega) (by omega) ?_)
  intro v2 w2 own2 gr2
  obtain ⟨A2, c2, rfl, _, _, _⟩ := own_form own2
  have bel1 : Below w.heap.size w w1 := hb1
  have bel2 := bel1.grown gr2 z1 (fun g hg => (own1'.lt g hg).1)
  have z2 := bel2.size
  have p1' := (bel2.cell (p := ⟨B, 1, none⟩) hB).trans hB1
  have p0' := (bel2.cell (p := ⟨B, 0, none⟩) hB).trans hB0
  clear p0 p1 gr2 own1' hb1
  go_wp2_with fail
  rw [rounds_succ]
  go_wp2_with (at_builtin; refine wpList_append_rowT rfl _ _ rfl w.heap.size base' _ n l rfl own2 A' n' c' l' rfl (own_below HR'.out bel2) (by omega) z2 ?_)
  intro v3 w3 own3 gr3
  obtain ⟨A3, c3, rfl, _, _, _⟩ := own_form own3
  have bel3 := bel2.grown gr3 z2 (fun g hg => (own2.lt g hg).1)
  have HO := Lib.hid own3
  clear own2 own3 gr3
  go_wp2_with fail
  rw [rounds_succ]
  go_wp2_with fail
  go_ret
  exact ⟨A3, c3, rfl, by have := HO.out; simpa using this, bel3⟩
set_option maxHeartbeats 4000000 in
/-- slices.Equal at two rows of strings that read alike. -/
theorem equalT_ok (A B : Option Addr) (n c c' : Nat) (L : List ByteArray) (w : World) (ha : TRow w A n L) (hb : TRow w B n L) (hn : n ≤ 1000000) :
    Calls Try.prog 49 #[.slice A n c, .slice B n c'] w fun e w' => e = .returned (.bool true) ∧ Below w.heap.size w w' := by
  have HA := Lib.hid ha
  have HB := Lib.hid hb
  have e0 : ((n : Int) == n) = true := by simp
  clear ha hb
  go_enter Try.func49, Try.ntmps49
  go_wp2_with fail
  go_loopw [13] (fun i wr => ∃ k : Nat, k ≤ n ∧ i = .int .i64 k ∧ Below w.heap.size w wr) (fun i _ => n - (intOf i).toNat)
  case atStart => exact ⟨0, Nat.zero_le _, rfl, Below.refl _ _⟩
  case round =>
    obtain ⟨k, hk, rfl, bel⟩ := hrel
    by_cases hlt : k < n
    · obtain ⟨ba, oa, rfl, la, a0⟩ := (HA.out.below bel).at hlt
      obtain ⟨bb, ob, rfl, lb, b0⟩ := (HB.out.below bel).at hlt
      obtain ⟨s, hs⟩ : ∃ x, L.getD k ⟨#[]⟩ = x := ⟨_, rfl⟩
      rw [hs] at a0 b0
      have kw : IntKind.i64.wrap ((k : Int) + 1) = (k : Int) + 1 := IntWalk.i64_in _ (by omega)
      have HBe := Lib.hid bel
      clear hs bel
      go_wp2_with fail
      refine wp_region_quiet_all (Ext _) (by kernel_rfl) (by kernel_rfl) (Ext.drawn _) ?_
      repeat (first | go_big_quiet_skip | go_big_quiet_step (fail) | (refine BigFrame.wpQuiet_want rfl (fun K hK => ?_); apply Exists.intro; refine ⟨fun w2 h2 => ?_, ?_⟩; (next => (have g1 := Below.cells h2.below; have g2 := Below.frozens h2.below; (try simp only [World.size_alloc, World.size_setCell] at g1 g2); first | (go_simp; (fail)) | (simp [go_sem, ↓IntWalk.iteOmega, *]; done) | (simp [go_sem, ↓IntWalk.iteOmega, *]; rfl)))); (go_simp; refine hK _ ?_; clear hK K))
      refine wpQuiet_nil ?_
      intro w1 h1
      have hb1 := h1.below
      clear h1
      have z1 := hb1.size
      have c1 := Below.cells hb1
      have f1 := Below.frozens hb1
      try simp only [World.size_alloc, World.size_setCell, World.size_drew] at z1 c1 f1
      go_wp2_with fail
      go_roundw
      case rel => exact ⟨k + 1, by omega, by go_num, HBe.out.trans (hb1.mono HBe.out.size)⟩
      case measure => simp [intOf]; omega
    · obtain rfl : n = k := by omega
      go_wp2_with fail
      go_ret
      exact ⟨rfl, bel⟩
/-- What is sent, as strings. -/
def sentB (id : ByteArray) (inc seq m : Nat) : List ByteArray := (List.range m).map fun j => mkB (encL (byts id) inc (seq + 1 + j))
theorem sent_map (id : ByteArray) (inc seq m : Nat) : sent id inc seq m = (sentB id inc seq m).map Value.string := by unfold sent sentB; rw [List.map_map]; rfl
theorem sentB_len (id : ByteArray) (inc seq m : Nat) : (sentB id inc seq m).length = m := by simp [sentB]
theorem sentB_app (id : ByteArray) (inc seq m m' : Nat) : sentB id inc seq (m + m') = sentB id inc seq m ++ sentB id inc (seq + m) m' := by
  unfold sentB
  rw [List.range_add, List.map_append, List.map_map]
  congr 1
  apply List.map_congr_left
  intro j _
  show mkB (encL (byts id) inc (seq + 1 + (m + j))) = _
  rw [show seq + 1 + (m + j) = seq + m + 1 + j by omega]
theorem sentB_get {id : ByteArray} {inc seq m k : Nat} (hk : k < m) : (sentB id inc seq m).getD k ⟨#[]⟩ = mkB (encL (byts id) inc (seq + 1 + k)) := by
  rw [List.getD_eq_getElem?_getD, List.getElem?_eq_getElem (by rw [sentB_len]; exact hk)]
  simp [sentB]
end Go.Proofs.Ytpomdnglknbanaa

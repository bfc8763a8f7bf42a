/-
  append(own, row...): whatever the row; slices.Concat of two.
-/
import Derived.Test.YtlnagfmaiabhaaaLs
import Derived.Test.YtlnagfmaiabhaaaShelfG
import Derived.Laws.AppendOwnNone
set_option linter.unusedSimpArgs false
set_option linter.unusedVariables false
namespace Go.Proofs.Ytlnagfmaiabhaaa
open Go Go.RowKit

theorem wpList_append_row {P : Program} {w : World} {ops : Array Oper} {rest : List Oper} {o : Oper} {a : Act} {Q : Exit → Act → World → Prop} (hw : Region.wanted o (yielded ops a.tmps) = true) (s x : Operand) (t : TypeId)
    (ho : o.op = .call { callee := .builtin .append, args := #[s, x], argTypes := #[t, t] })
    (base : Nat) (e : TypeId) (i : TypeInfo) (ht : P.underlying t = some (.slice e)) (hi : P.info? e = some i) (hz : i.zero = some (.int .i64 0))
    (hsize : i.size = 1) (hby : i.bytes = 8) (v : Value) (n : Nat) (xs : List Int) (hs : a.eval s = v) (hown : w.ownsRow base e 1 v n (xs.map (Value.int .i64)))
    (A : Option Addr) (m c : Nat) (ys : List Int) (hx : a.eval x = .slice A m c) (hr : InRow w A m c ys) (h63 : n + m ≤ 1000000) (hbase : base ≤ w.heap.size)
    (h : ∀ v' w', w'.ownsRow base e 1 v' (n + m) ((xs ++ ys).map (Value.int .i64)) → w.grownBy w' v.ownBlock → wpList P ops Q rest (a.put o.dst v') w') : wpList P ops Q (o :: rest) a w := by
  unfold wpList
  rw [if_pos hw]
  left
  rcases A with _ | ad
  · obtain ⟨rfl, rfl⟩ := hr.2.2.2 rfl
    have e0 : ys = [] := List.eq_nil_of_length_eq_zero hr.1.1
    subst e0
    have hrun := run_append_owned_none (P := P) (w := w) base t o.type e i 1 ht hi v n _ hown
    unfold Oper.wp
    simp [execOp, ho, resolve, invoke, builtin, hs, hx, hrun, Result.andThen]
    exact h v w (by simpa using hown) ⟨rfl, rfl, rfl, Nat.le_refl _, fun _ _ _ => rfl⟩
  · refine wp_append_own w s x t ho base e i (.int .i64 0) 1 8 ht hi hz hsize hby rfl (by decide) v n _ hs hown ad m c (ys.map (Value.int .i64)) hx (by simp [hr.1.1]) hr.1.cells0 (ints_one ys) (by unfold maxLen; omega) (by omega) hbase ?_
    intro v' w' h2 h3 _
    exact h v' w' (by simpa using h2) h3

theorem own_inRow' {w : World} {base n c : Nat} {A : Option Addr} {l : List Int} (h : w.ownsRow base 3 1 (.slice A n c) n (l.map (Value.int .i64))) : InRow w A n c l := by
  obtain ⟨A', c', e, h1, h2, h3⟩ := own_form h
  injection e with e1 e2 e3
  subst e1 e3
  exact ⟨Row.of_own h, h1, h2, h3⟩
theorem heap_new (w : World) (o : Obj) : (w.drew.alloc o).heap[w.heap.size]? = some o := by
  show (w.heap.push o)[w.heap.size]? = some o
  simp
set_option maxRecDepth 100000 in
set_option maxHeartbeats 4000000 in
/-- slices.Grow(nil, n). -/
theorem grow_nil (n : Nat) (w : World) (hn : n ≤ 1000000) :
    Calls Try.prog 80 #[.slice none 0 0, .int .i64 n] w fun e w' => ∃ A c, e = .returned (.slice A 0 c) ∧ w'.ownsRow w.heap.size 3 1 (.slice A 0 c) 0 [] ∧ Below w.heap.size w w' := by
  obtain ⟨i0, hi, hz0, hz1, hz2⟩ := info_parts info_int
  rcases Nat.eq_zero_or_pos n with h | h
  · subst h
    refine (Any8.slices_Grow_room Try.growI none 0 0 0 w (Nat.le_refl _) (by omega) (by omega) (by omega)).mono ?_
    rintro e w' ⟨rfl, rfl⟩
    exact ⟨none, 0, rfl, World.ownsRow_nil _ _ _ _, Below.refl _ _⟩
  · refine (Any8.slices_Grow_grow Try.growI i0 (.int .i64 0) hi hz0 (by rw [hz1]; decide) none 0 0 n [] w (Nat.le_refl _) (by omega) (by rw [hz2]; omega) (by omega) (by simp) (fun _ => rfl) (fun a h => by cases h)).mono ?_
    rintro e w' ⟨rfl, rfl⟩
    have g1 := grownCap_ge w (0 + n) 0 3
    have g2 := grownCap_le_maxLen w (0 + n) 0 3 (by unfold maxLen; omega)
    refine ⟨some ⟨w.heap.size, 0, none⟩, _, rfl, ⟨rfl, .inr ⟨w.heap.size, _, _, rfl, Nat.le_refl _, heap_new w _, Nat.zero_le _, g2, ?_, by simp⟩⟩, ((Below.refl _ w).drew).alloc (Nat.le_refl _) _⟩
    change _ = grownCap w (0 + n) 0 3 * 1
    obtain ⟨G, hG⟩ : ∃ G, grownCap w (0 + n) 0 3 = G := ⟨_, rfl⟩
    change ((#[] : Array Value) ++ Builtin.zeroCells (Value.int IntKind.i64 0).cells (0 + n - 0) ++ Builtin.zeroCells (Value.int IntKind.i64 0).cells (grownCap w (0 + n) 0 3 - (0 + n))).size = _
    rw [hG] at g1 ⊢
    simp [Builtin.zeroCells, Value.cells]
    omega

set_option maxRecDepth 100000 in
set_option maxHeartbeats 8000000 in
/-- slices.Concat of two. -/
theorem concat_ok (B : Nat) (A A' : Option Addr) (n c n' c' : Nat) (l l' : List Int) (w : World) (hB0 : w.cell? ⟨B, 0, none⟩ = some (.slice A n c)) (hB1 : w.cell? ⟨B, 1, none⟩ = some (.slice A' n' c')) (hB : B < w.heap.size)
    (hr : InRow w A n c l) (hr' : InRow w A' n' c' l') (hm : n ≤ 1000) (hm' : n' ≤ 1000) :
    Calls Try.prog 48 #[.slice (some ⟨B, 0, none⟩) 2 2] w fun e w' => ∃ A2 c2, e = .returned (.slice A2 (n + n') c2) ∧ InRow w' A2 (n + n') c2 (l ++ l') ∧ w'.ownsRow w.heap.size 3 1 (.slice A2 (n + n') c2) (n + n') ((l ++ l').map (Value.int .i64)) ∧ Below w.heap.size w w' := by
  obtain ⟨i0, hi, hz0, hz1, hz2⟩ := info_parts info_int
  have hg : ∀ w, _ := fun w => grow_nil (n + n') w (by omega)
  simp only [Int.natCast_add] at hg
  have HG := Lib.hid hg
  have HR := Lib.hid hr
  have HR' := Lib.hid hr'
  have q1 : ¬ ((n : Int) < 0) := by omega
  have q2 : ¬ ((n : Int) + n' < 0) := by omega
  have qa := alloc_cells
  have qf := alloc_frozens
  clear hr hr' hg
  go_enter Try.func48, Try.ntmps48
  go_wp2_with fail
  refine wp_loop_rounds 3 ?_
  iterate 3 (rw [rounds_succ]; go_wp2_with fail)
  refine (HG.out _).mono ?_
  rintro e w1 ⟨A1, c1, rfl, own1, hb1⟩
  have z1 := hb1.size
  have p0 := (hb1.cell (p := ⟨B, 0, none⟩) hB).trans hB0
  have p1 := (hb1.cell (p := ⟨B, 1, none⟩) hB).trans hB1
  have own1' : w1.ownsRow w.heap.size 3 1 (.slice A1 0 c1) 0 (([] : List Int).map (Value.int .i64)) := own1
  clear own1
  go_wp2_with fail
  refine wp_loop_rounds 3 ?_
  rw [rounds_succ]
  go_wp2_with (at_builtin; refine wpList_append_row rfl _ _ 32 rfl w.heap.size 3 i0 Try.underlying32 hi hz0 hz1 hz2 _ 0 [] rfl own1' A n c l rfl (HR.out.below hb1) (by omega) (by omega) ?_)
  intro v2 w2 own2 gr2
  obtain ⟨A2, c2, rfl, _, _, _⟩ := own_form own2
  have bel1 : Below w.heap.size w w1 := hb1
  have bel2 := bel1.grown gr2 z1 (fun g hg => (own1'.lt g hg).1)
  have z2 := bel2.size
  have p1' := (bel2.cell (p := ⟨B, 1, none⟩) hB).trans hB1
  have p0' := (bel2.cell (p := ⟨B, 0, none⟩) hB).trans hB0
  clear p0 p1 gr2 own1' hb1
  go_wp2_with fail
  rw [rounds_succ]
  go_wp2_with (at_builtin; refine wpList_append_row rfl _ _ 32 rfl w.heap.size 3 i0 Try.underlying32 hi hz0 hz1 hz2 _ n l rfl own2 A' n' c' l' rfl (HR'.out.below bel2) (by omega) z2 ?_)
  intro v3 w3 own3 gr3
  obtain ⟨A3, c3, rfl, _, _, _⟩ := own_form own3
  have bel3 := bel2.grown gr3 z2 (fun g hg => (own2.lt g hg).1)
  rw [← List.map_append] at own3
  have HO := Lib.hid own3
  clear own2 own3 gr3
  go_wp2_with fail
  rw [rounds_succ]
  go_wp2_with fail
  go_ret
  exact ⟨A3, c3, rfl, own_inRow' HO.out, HO.out, bel3⟩
end Go.Proofs.Ytlnagfmaiabhaaa

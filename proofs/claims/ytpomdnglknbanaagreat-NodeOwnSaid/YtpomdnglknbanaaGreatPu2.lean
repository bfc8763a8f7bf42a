/-
  win.Push at a window that is full, and at what is no value.
-/
import Derived.Test.YtpomdnglknbanaaGreatPu
set_option linter.unusedSimpArgs false
set_option linter.unusedVariables false
namespace Go.Proofs.YtpomdnglknbanaaGreat
open Go.RowKit

set_option maxRecDepth 100000 in
set_option maxHeartbeats 4000000 in
theorem push_full2 (z v : Int) (b off : Nat) (n c : Nat) (l : List Int) (w : World) (hr : Row w (some ⟨b, off, none⟩) (n + 1) l) (hz : 1 ≤ z ∧ z ≤ 64) (hcap : n + 1 ≤ c) (hc2 : ¬ c = 1) (hb : Btw 0 16777216 l) (hv : 0 ≤ v ∧ v ≤ 16777216) (he : ((n + 1 : Nat) : Int) = z) :
    Calls Tryz.prog 69 #[.agg #[.int .i64 z, .slice (some ⟨b, off, none⟩) (n + 1) c], .int .i64 v] w fun e w' => ∃ A' c', e = .returned (.tuple #[.agg #[.int .i64 z, .slice A' (n + 1) c'], .int .i64 0]) ∧ w'.ownsRow w.heap.size 3 1 (.slice A' (n + 1) c') (n + 1) ((l.drop 1 ++ [v]).map (Value.int .i64)) ∧ Below w.heap.size w w' := by
  have hc : ∀ w', Row w' (some ⟨b, off, none⟩) (n + 1) l → _ := fun w' h => wcheck_ok z (some ⟨b, off, none⟩) (n + 1) c l w' h hz (by omega) hb
  have hcl : ∀ w', Row w' (some ⟨b, off + 1, none⟩) n (l.drop 1) → _ := fun w' h => clone_own (some ⟨b, off + 1, none⟩) n (c - 1) (l.drop 1) w' h (by omega)
  have hr2 : Row w (some ⟨b, off + 1, none⟩) n (l.drop 1) := row_drop hr (k := 1) (by omega)
  have HR2 := Lib.hid hr2
  have HE := Lib.hid he
  have n63 : n ≤ 63 := by omega
  have hc1 : ¬ c < 1 := by omega
  obtain ⟨m, hm⟩ : ∃ m, l.drop 1 = m := ⟨_, rfl⟩
  rw [hm] at hr2 HR2 hcl ⊢
  have HC := Lib.hid hc
  have HCl := Lib.hid hcl
  have HR := Lib.hid hr
  have hne2 : (((n + 1 : Nat) : Int) == z) = true := by simpa using he
  obtain ⟨v0, v1⟩ := hv
  obtain ⟨i0, hi, hz0, hz1, hz2⟩ := info_parts info_int
  have qa := alloc_cells
  have qf := alloc_frozens
  have HM := Lib.hid hm
  clear hc hcl hr hb hr2 hm he
  go_enter Tryz.func69, Tryz.ntmps69
  go_wp2_with fail
  refine (HC.out _ (HR.out.below (by repeat (first | (with_reducible exact Below.refl _ _) | ((with_reducible refine Below.alloc ?_ ?_ _); rotate_left; (next => ((try dsimp only); (try simp only [World.size_alloc, World.size_setCell, World.size_drew]); omega))) | ((with_reducible refine Below.setCell ?_ ?_ _); rotate_left; (next => ((try dsimp only); (try simp only [World.size_alloc, World.size_setCell, World.size_drew]); omega))) | (with_reducible refine Below.drew ?_) | (refine Below.trans ?_ (by assumption)))))).mono ?_
  rintro e w1 ⟨rfl, hb1⟩
  have z1 := hb1.size
  have c1 := Below.cells hb1
  have f1 := Below.frozens hb1
  try simp only [World.size_alloc, World.size_setCell, World.size_drew] at z1 c1 f1
  go_wp2_with fail
  refine (val_ok v v0 v1 _).mono ?_
  rintro e w' ⟨rfl, rfl⟩
  go_wp2_with fail
  have KZ : w1.cell? ⟨w.heap.size, 0, none⟩ = some (.int .i64 z) := by simp [go_sem, ↓IntWalk.iteOmega, *]
  have KA : w1.cell? ⟨w.heap.size + 1, 0, none⟩ = some (.int .i64 0) := by simp [go_sem, ↓IntWalk.iteOmega, *]
  have KB : w1.cell? ⟨w.heap.size + 1, 1, none⟩ = some (.slice none 0 0) := by simp [go_sem, ↓IntWalk.iteOmega, *]
  have KF : ∀ o, w1.frozen? ⟨w.heap.size + 1, o, none⟩ = false := by intro o; simp [go_sem, ↓IntWalk.iteOmega, *]
  clear c1 f1 qa qf
  go_region_held3 (fun w' => w'.cell? ⟨w.heap.size, 0, none⟩ = some (.int .i64 z)) (first | assumption | exact kk2 | (rw [alloc_cells, if_pos (by omega)]; assumption) | (refine (alloc_cells w1 _ _ _ _).trans ?_; rw [if_pos (by omega)]; exact KZ) | (rw [World.cell?_setCell_far _ _ _ _ (by simp), World.cell?_setCell_far _ _ _ _ (by simp)]; exact kk2))
    (first
      | (refine (HCl.out _ (HR2.out.below (by repeat (first | (with_reducible exact Below.refl _ _) | ((with_reducible refine Below.alloc ?_ ?_ _); rotate_left; (next => ((try dsimp only); (try simp only [World.size_alloc, World.size_setCell, World.size_drew]); omega))) | ((with_reducible refine Below.setCell ?_ ?_ _); rotate_left; (next => ((try dsimp only); (try simp only [World.size_alloc, World.size_setCell, World.size_drew]); omega))) | (with_reducible refine Below.drew ?_) | ((with_reducible refine Below.trans ?_ (Below.mono hb1 ?_)); rotate_left; (next => ((try dsimp only); (try simp only [World.size_alloc, World.size_setCell, World.size_drew]); omega))))))).mono ?_; rintro e wk ⟨vk, rfl, ownk, hbk⟩; obtain ⟨Ak, ck, rfl, pk, qk, nk⟩ := own_form ownk; have zk := hbk.size; (try simp only [World.size_alloc, World.size_setCell, World.size_drew] at zk); have bk : Below (w.heap.size + 2) w1 wk := (by repeat (first | (with_reducible exact Below.refl _ _) | ((with_reducible refine Below.alloc ?_ ?_ _); rotate_left; (next => ((try dsimp only); (try simp only [World.size_alloc, World.size_setCell, World.size_drew]); omega))) | ((with_reducible refine Below.setCell ?_ ?_ _); rotate_left; (next => ((try dsimp only); (try simp only [World.size_alloc, World.size_setCell, World.size_drew]); omega))) | (with_reducible refine Below.drew ?_) | ((with_reducible refine Below.trans ?_ (Below.mono hbk ?_)); rotate_left; (next => ((try dsimp only); (try simp only [World.size_alloc, World.size_setCell, World.size_drew]); omega))))); have kk := (bk.cell (p := ⟨w.heap.size, 0, none⟩) (by (try simp only [World.size_alloc, World.size_drew]); omega)).trans KZ)
      | (refine step_append_lies _ (by rfl) _ _ _ (by rfl) _ 3 i0 _ 1 8 Tryz.underlying41 hi hz0 hz1 hz2 rfl (by omega) _ n (m.map (Value.int .i64)) (by rfl) (ownk.alloc _)
            ⟨wk.heap.size, 0, none⟩ 1 1 [.int .i64 v] (by rfl) (by rfl) (World.news_of_block (cs := #[.int .i64 v]) (t := 3) (fr := (0, 0)) (heap_alloc_new wk _)) (app1_one _ _)
            (by omega) (by unfold maxLen; omega) (by omega) (by simp; omega) (wk.heap.size + 1) (by simp) ?_; intro gg cap wq ownq grq atq ltq;
          have hbq : Below (w.heap.size + 2) w1 wq := (bk.alloc (by omega) _).grown grq (by simp; omega) (fun k e => by have := (World.ownsRow.lt ownk _ e).1; simp only [World.size_alloc, World.size_drew] at this; omega);
          have kk2 := (hbq.cell (p := ⟨w.heap.size, 0, none⟩) (by (try simp only [World.size_alloc, World.size_drew]); omega)).trans KZ;
          have ka := (hbq.cell (p := ⟨w.heap.size + 1, 0, none⟩) (by (try simp only [World.size_alloc, World.size_drew]); omega)).trans KA;
          have kb := (hbq.cell (p := ⟨w.heap.size + 1, 1, none⟩) (by (try simp only [World.size_alloc, World.size_drew]); omega)).trans KB;
          have kf := fun o => (hbq.frozen (p := ⟨w.heap.size + 1, o, none⟩) (by (try simp only [World.size_alloc, World.size_drew]); omega)).trans (KF o); clear grq)
      | (refine step_append_lies _ (by rfl) _ _ _ (by rfl) _ 3 i0 _ 1 8 Tryz.underlying41 hi hz0 hz1 hz2 rfl (by omega) _ n (m.map (Value.int .i64)) (by rfl) ownk
            ⟨w1.heap.size, 0, none⟩ 1 1 [.int .i64 v] (by rfl) (by rfl) (World.news_of_block (cs := #[.int .i64 v]) (t := 3) (fr := (0, 0)) ((hbk.block _ (by simp)).trans (heap_alloc_new w1 _))) (app1_one _ _)
            (by omega) (by unfold maxLen; omega) (by omega) (by simp; omega) wk.heap.size (by simp) ?_; intro gg cap wq ownq grq atq ltq;
          have hbq : Below (w.heap.size + 2) w1 wq := bk.grown grq (by omega) (fun k e => by have := (World.ownsRow.lt ownk _ e).1; simp only [World.size_alloc, World.size_drew] at this; omega);
          have kk2 := (hbq.cell (p := ⟨w.heap.size, 0, none⟩) (by (try simp only [World.size_alloc, World.size_drew]); omega)).trans KZ;
          have ka := (hbq.cell (p := ⟨w.heap.size + 1, 0, none⟩) (by (try simp only [World.size_alloc, World.size_drew]); omega)).trans KA;
          have kb := (hbq.cell (p := ⟨w.heap.size + 1, 1, none⟩) (by (try simp only [World.size_alloc, World.size_drew]); omega)).trans KB;
          have kf := fun o => (hbq.frozen (p := ⟨w.heap.size + 1, o, none⟩) (by (try simp only [World.size_alloc, World.size_drew]); omega)).trans (KF o); clear grq))
  all_goals
    have bel : Below w.heap.size w ((wq.setCell ⟨w.heap.size + 1, 0, none⟩ (.int .i64 z)).setCell ⟨w.heap.size + 1, 1, none⟩ (.slice (some ⟨gg, 0, none⟩) (n + 1) cap)) := (by repeat (first | (with_reducible exact Below.refl _ _) | ((with_reducible refine Below.alloc ?_ ?_ _); rotate_left; (next => ((try dsimp only); (try simp only [World.size_alloc, World.size_setCell, World.size_drew]); omega))) | ((with_reducible refine Below.setCell ?_ ?_ _); rotate_left; (next => ((try dsimp only); (try simp only [World.size_alloc, World.size_setCell, World.size_drew]); omega))) | (with_reducible refine Below.drew ?_) | ((with_reducible refine Below.trans ?_ (Below.mono hbq ?_)); rotate_left; (next => ((try dsimp only); (try simp only [World.size_alloc, World.size_setCell, World.size_drew]); omega))) | ((with_reducible refine Below.trans ?_ (Below.mono hb1 ?_)); rotate_left; (next => ((try dsimp only); (try simp only [World.size_alloc, World.size_setCell, World.size_drew]); omega)))))
    have own2 : wq.ownsRow (w.heap.size + 2) 3 1 (.slice (some ⟨gg, 0, none⟩) (n + 1) cap) (n + 1) ((m ++ [v]).map (Value.int .i64)) := by
      simpa using own_mono (B' := w.heap.size + 2) ownq (by (try simp only [World.size_alloc, World.size_drew]); omega)
    have hin := own_mono (own_set (own_set own2 (b := w.heap.size + 1) (by omega) 0 (.int .i64 z)) (b := w.heap.size + 1) (by omega) 1 (.slice (some ⟨gg, 0, none⟩) (n + 1) cap)) (B' := w.heap.size) (by omega)
    have HI := Lib.hid hin
    have HB := Lib.hid bel
    clear bel own2 hin ownq ownk hbq hbk bk
    go_wp2_with fail
    refine bodyPost_ret (v := .tuple #[.agg #[.int .i64 z, .slice (some ⟨gg, 0, none⟩) (n + 1) cap], .int .i64 0]) (by simp [results, Tryz.f69, go_sem, ↓IntWalk.iteOmega, *]) rfl ?_
    exact ⟨_, _, rfl, HI.out, HB.out⟩
set_option maxRecDepth 100000 in
set_option maxHeartbeats 4000000 in
theorem push_full1 (z v : Int) (b off : Nat) (n : Nat) (l : List Int) (w : World) (hr : Row w (some ⟨b, off, none⟩) (n + 1) l) (hz : 1 ≤ z ∧ z ≤ 64) (hcap : n + 1 ≤ 1) (hb : Btw 0 16777216 l) (hv : 0 ≤ v ∧ v ≤ 16777216) (he : ((n + 1 : Nat) : Int) = z) :
    Calls Tryz.prog 69 #[.agg #[.int .i64 z, .slice (some ⟨b, off, none⟩) (n + 1) 1], .int .i64 v] w fun e w' => ∃ A' c', e = .returned (.tuple #[.agg #[.int .i64 z, .slice A' (n + 1) c'], .int .i64 0]) ∧ w'.ownsRow w.heap.size 3 1 (.slice A' (n + 1) c') (n + 1) ((l.drop 1 ++ [v]).map (Value.int .i64)) ∧ Below w.heap.size w w' := by
  have hc : ∀ w', Row w' (some ⟨b, off, none⟩) (n + 1) l → _ := fun w' h => wcheck_ok z (some ⟨b, off, none⟩) (n + 1) 1 l w' h hz (by omega) hb
  have hcl : ∀ w', Row w' (some ⟨b, off, none⟩) n (l.drop 1) → _ := fun w' h => clone_own (some ⟨b, off, none⟩) n 0 (l.drop 1) w' h (by omega)
  have hr2 : Row w (some ⟨b, off, none⟩) n (l.drop 1) := ⟨by rw [List.length_drop, hr.1]; omega, fun h => by omega⟩
  have HR2 := Lib.hid hr2
  have HE := Lib.hid he
  have n63 : n ≤ 63 := by omega
  obtain ⟨m, hm⟩ : ∃ m, l.drop 1 = m := ⟨_, rfl⟩
  rw [hm] at hr2 HR2 hcl ⊢
  have HC := Lib.hid hc
  have HCl := Lib.hid hcl
  have HR := Lib.hid hr
  have hne2 : (((n + 1 : Nat) : Int) == z) = true := by simpa using he
  obtain ⟨v0, v1⟩ := hv
  obtain ⟨i0, hi, hz0, hz1, hz2⟩ := info_parts info_int
  have qa := alloc_cells
  have qf := alloc_frozens
  have HM := Lib.hid hm
  clear hc hcl hr hb hr2 hm he hcap
  go_enter Tryz.func69, Tryz.ntmps69
  go_wp2_with fail
  refine (HC.out _ (HR.out.below (by repeat (first | (with_reducible exact Below.refl _ _) | ((with_reducible refine Below.alloc ?_ ?_ _); rotate_left; (next => ((try dsimp only); (try simp only [World.size_alloc, World.size_setCell, World.size_drew]); omega))) | ((with_reducible refine Below.setCell ?_ ?_ _); rotate_left; (next => ((try dsimp only); (try simp only [World.size_alloc, World.size_setCell, World.size_drew]); omega))) | (with_reducible refine Below.drew ?_) | (refine Below.trans ?_ (by assumption)))))).mono ?_
  rintro e w1 ⟨rfl, hb1⟩
  have z1 := hb1.size
  have c1 := Below.cells hb1
  have f1 := Below.frozens hb1
  try simp only [World.size_alloc, World.size_setCell, World.size_drew] at z1 c1 f1
  go_wp2_with fail
  refine (val_ok v v0 v1 _).mono ?_
  rintro e w' ⟨rfl, rfl⟩
  go_wp2_with fail
  have KZ : w1.cell? ⟨w.heap.size, 0, none⟩ = some (.int .i64 z) := by simp [go_sem, ↓IntWalk.iteOmega, *]
  have KA : w1.cell? ⟨w.heap.size + 1, 0, none⟩ = some (.int .i64 0) := by simp [go_sem, ↓IntWalk.iteOmega, *]
  have KB : w1.cell? ⟨w.heap.size + 1, 1, none⟩ = some (.slice none 0 0) := by simp [go_sem, ↓IntWalk.iteOmega, *]
  have KF : ∀ o, w1.frozen? ⟨w.heap.size + 1, o, none⟩ = false := by intro o; simp [go_sem, ↓IntWalk.iteOmega, *]
  clear c1 f1 qa qf
  go_region_held3 (fun w' => w'.cell? ⟨w.heap.size, 0, none⟩ = some (.int .i64 z)) (first | assumption | exact kk2 | (rw [alloc_cells, if_pos (by omega)]; assumption) | (refine (alloc_cells w1 _ _ _ _).trans ?_; rw [if_pos (by omega)]; exact KZ) | (rw [World.cell?_setCell_far _ _ _ _ (by simp), World.cell?_setCell_far _ _ _ _ (by simp)]; exact kk2))
    (first
      | (refine (HCl.out _ (HR2.out.below (by repeat (first | (with_reducible exact Below.refl _ _) | ((with_reducible refine Below.alloc ?_ ?_ _); rotate_left; (next => ((try dsimp only); (try simp only [World.size_alloc, World.size_setCell, World.size_drew]); omega))) | ((with_reducible refine Below.setCell ?_ ?_ _); rotate_left; (next => ((try dsimp only); (try simp only [World.size_alloc, World.size_setCell, World.size_drew]); omega))) | (with_reducible refine Below.drew ?_) | ((with_reducible refine Below.trans ?_ (Below.mono hb1 ?_)); rotate_left; (next => ((try dsimp only); (try simp only [World.size_alloc, World.size_setCell, World.size_drew]); omega))))))).mono ?_; rintro e wk ⟨vk, rfl, ownk, hbk⟩; obtain ⟨Ak, ck, rfl, pk, qk, nk⟩ := own_form ownk; have zk := hbk.size; (try simp only [World.size_alloc, World.size_setCell, World.size_drew] at zk); have bk : Below (w.heap.size + 2) w1 wk := (by repeat (first | (with_reducible exact Below.refl _ _) | ((with_reducible refine Below.alloc ?_ ?_ _); rotate_left; (next => ((try dsimp only); (try simp only [World.size_alloc, World.size_setCell, World.size_drew]); omega))) | ((with_reducible refine Below.setCell ?_ ?_ _); rotate_left; (next => ((try dsimp only); (try simp only [World.size_alloc, World.size_setCell, World.size_drew]); omega))) | (with_reducible refine Below.drew ?_) | ((with_reducible refine Below.trans ?_ (Below.mono hbk ?_)); rotate_left; (next => ((try dsimp only); (try simp only [World.size_alloc, World.size_setCell, World.size_drew]); omega))))); have kk := (bk.cell (p := ⟨w.heap.size, 0, none⟩) (by (try simp only [World.size_alloc, World.size_drew]); omega)).trans KZ)
      | (refine step_append_lies _ (by rfl) _ _ _ (by rfl) _ 3 i0 _ 1 8 Tryz.underlying41 hi hz0 hz1 hz2 rfl (by omega) _ n (m.map (Value.int .i64)) (by rfl) (ownk.alloc _)
            ⟨wk.heap.size, 0, none⟩ 1 1 [.int .i64 v] (by rfl) (by rfl) (World.news_of_block (cs := #[.int .i64 v]) (t := 3) (fr := (0, 0)) (heap_alloc_new wk _)) (app1_one _ _)
            (by omega) (by unfold maxLen; omega) (by omega) (by simp; omega) (wk.heap.size + 1) (by simp) ?_; intro gg cap wq ownq grq atq ltq;
          have hbq : Below (w.heap.size + 2) w1 wq := (bk.alloc (by omega) _).grown grq (by simp; omega) (fun k e => by have := (World.ownsRow.lt ownk _ e).1; simp only [World.size_alloc, World.size_drew] at this; omega);
          have kk2 := (hbq.cell (p := ⟨w.heap.size, 0, none⟩) (by (try simp only [World.size_alloc, World.size_drew]); omega)).trans KZ;
          have ka := (hbq.cell (p := ⟨w.heap.size + 1, 0, none⟩) (by (try simp only [World.size_alloc, World.size_drew]); omega)).trans KA;
          have kb := (hbq.cell (p := ⟨w.heap.size + 1, 1, none⟩) (by (try simp only [World.size_alloc, World.size_drew]); omega)).trans KB;
          have kf := fun o => (hbq.frozen (p := ⟨w.heap.size + 1, o, none⟩) (by (try simp only [World.size_alloc, World.size_drew]); omega)).trans (KF o); clear grq)
      | (refine step_append_lies _ (by rfl) _ _ _ (by rfl) _ 3 i0 _ 1 8 Tryz.underlying41 hi hz0 hz1 hz2 rfl (by omega) _ n (m.map (Value.int .i64)) (by rfl) ownk
            ⟨w1.heap.size, 0, none⟩ 1 1 [.int .i64 v] (by rfl) (by rfl) (World.news_of_block (cs := #[.int .i64 v]) (t := 3) (fr := (0, 0)) ((hbk.block _ (by simp)).trans (heap_alloc_new w1 _))) (app1_one _ _)
            (by omega) (by unfold maxLen; omega) (by omega) (by simp; omega) wk.heap.size (by simp) ?_; intro gg cap wq ownq grq atq ltq;
          have hbq : Below (w.heap.size + 2) w1 wq := bk.grown grq (by omega) (fun k e => by have := (World.ownsRow.lt ownk _ e).1; simp only [World.size_alloc, World.size_drew] at this; omega);
          have kk2 := (hbq.cell (p := ⟨w.heap.size, 0, none⟩) (by (try simp only [World.size_alloc, World.size_drew]); omega)).trans KZ;
          have ka := (hbq.cell (p := ⟨w.heap.size + 1, 0, none⟩) (by (try simp only [World.size_alloc, World.size_drew]); omega)).trans KA;
          have kb := (hbq.cell (p := ⟨w.heap.size + 1, 1, none⟩) (by (try simp only [World.size_alloc, World.size_drew]); omega)).trans KB;
          have kf := fun o => (hbq.frozen (p := ⟨w.heap.size + 1, o, none⟩) (by (try simp only [World.size_alloc, World.size_drew]); omega)).trans (KF o); clear grq))
  all_goals
    have bel : Below w.heap.size w ((wq.setCell ⟨w.heap.size + 1, 0, none⟩ (.int .i64 z)).setCell ⟨w.heap.size + 1, 1, none⟩ (.slice (some ⟨gg, 0, none⟩) (n + 1) cap)) := (by repeat (first | (with_reducible exact Below.refl _ _) | ((with_reducible refine Below.alloc ?_ ?_ _); rotate_left; (next => ((try dsimp only); (try simp only [World.size_alloc, World.size_setCell, World.size_drew]); omega))) | ((with_reducible refine Below.setCell ?_ ?_ _); rotate_left; (next => ((try dsimp only); (try simp only [World.size_alloc, World.size_setCell, World.size_drew]); omega))) | (with_reducible refine Below.drew ?_) | ((with_reducible refine Below.trans ?_ (Below.mono hbq ?_)); rotate_left; (next => ((try dsimp only); (try simp only [World.size_alloc, World.size_setCell, World.size_drew]); omega))) | ((with_reducible refine Below.trans ?_ (Below.mono hb1 ?_)); rotate_left; (next => ((try dsimp only); (try simp only [World.size_alloc, World.size_setCell, World.size_drew]); omega)))))
    have own2 : wq.ownsRow (w.heap.size + 2) 3 1 (.slice (some ⟨gg, 0, none⟩) (n + 1) cap) (n + 1) ((m ++ [v]).map (Value.int .i64)) := by
      simpa using own_mono (B' := w.heap.size + 2) ownq (by (try simp only [World.size_alloc, World.size_drew]); omega)
    have hin := own_mono (own_set (own_set own2 (b := w.heap.size + 1) (by omega) 0 (.int .i64 z)) (b := w.heap.size + 1) (by omega) 1 (.slice (some ⟨gg, 0, none⟩) (n + 1) cap)) (B' := w.heap.size) (by omega)
    have HI := Lib.hid hin
    have HB := Lib.hid bel
    clear bel own2 hin ownq ownk hbq hbk bk
    go_wp2_with fail
    refine bodyPost_ret (v := .tuple #[.agg #[.int .i64 z, .slice (some ⟨gg, 0, none⟩) (n + 1) cap], .int .i64 0]) (by simp [results, Tryz.f69, go_sem, ↓IntWalk.iteOmega, *]) rfl ?_
    exact ⟨_, _, rfl, HI.out, HB.out⟩
/-- Whatever the window: the value goes in at the end, the first goes out if it is full. -/
theorem push_ok (z v : Int) (A : Option Addr) (n c : Nat) (l : List Int) (w : World) (hr : InRow w A n c l) (hz : 1 ≤ z ∧ z ≤ 64) (hn : (n : Int) ≤ z) (hb : Btw 0 16777216 l) (hv : 0 ≤ v ∧ v ≤ 16777216) :
    Calls Tryz.prog 69 #[.agg #[.int .i64 z, .slice A n c], .int .i64 v] w fun e w' => ∃ A' n' c', e = .returned (.tuple #[.agg #[.int .i64 z, .slice A' n' c'], .int .i64 0]) ∧ w'.ownsRow w.heap.size 3 1 (.slice A' n' c') n' ((pushd z l v).map (Value.int .i64)) ∧ Below w.heap.size w w' := by
  have hl := hr.1.1
  by_cases he : (n : Int) = z
  · obtain ⟨m, rfl⟩ : ∃ m, n = m + 1 := ⟨n - 1, by omega⟩
    obtain ⟨b, off, rfl, _⟩ := hr.1.2 (by omega)
    have hp : pushd z l v = l.drop 1 ++ [v] := by unfold pushd; rw [if_pos (by rw [hl]; exact he)]
    rw [hp]
    by_cases hc : c = 1
    · subst hc
      exact (push_full1 z v b off m l w hr.1 hz hr.2.1 hb hv he).mono fun e w' ⟨A', c', h1, h2, h3⟩ => ⟨A', m + 1, c', h1, h2, h3⟩
    · exact (push_full2 z v b off m c l w hr.1 hz hr.2.1 hc hb hv he).mono fun e w' ⟨A', c', h1, h2, h3⟩ => ⟨A', m + 1, c', h1, h2, h3⟩
  · have hp : pushd z l v = l ++ [v] := by unfold pushd; rw [if_neg (by rw [hl]; exact he)]
    rw [hp]
    exact (push_grow z v A n c l w hr.1 hz hn hb hv he).mono fun e w' ⟨A', c', h1, h2, h3⟩ => ⟨A', n + 1, c', h1, h2, h3⟩

set_option maxHeartbeats 2000000 in
theorem push_bad (z v : Int) (A : Option Addr) (n c : Nat) (l : List Int) (w : World) (hr : Row w A n l) (hz : 1 ≤ z ∧ z ≤ 64) (hn : (n : Int) ≤ z) (hb : Btw 0 16777216 l) (hv : ¬ (0 ≤ v ∧ v ≤ 16777216)) :
    Calls Tryz.prog 69 #[.agg #[.int .i64 z, .slice A n c], .int .i64 v] w fun e w' => e = .returned (.tuple #[.agg #[.int .i64 0, .slice none 0 0], .int .i64 1]) ∧ Below w.heap.size w w' := by
  have hc : ∀ w', Row w' A n l → _ := fun w' h => wcheck_ok z A n c l w' h hz hn hb
  have HC := Lib.hid hc
  have HR := Lib.hid hr
  have hno := fun w' => val_no v (by omega) w'
  have HN := Lib.hid hno
  have qa := alloc_cells
  have qf := alloc_frozens
  clear hc hr hb hv hno
  go_enter Tryz.func69, Tryz.ntmps69
  go_wp2_with fail
  refine (HC.out _ (HR.out.below (by repeat (first | (with_reducible exact Below.refl _ _) | ((with_reducible refine Below.alloc ?_ ?_ _); rotate_left; (next => ((try dsimp only); (try simp only [World.size_alloc, World.size_setCell, World.size_drew]); omega))) | ((with_reducible refine Below.setCell ?_ ?_ _); rotate_left; (next => ((try dsimp only); (try simp only [World.size_alloc, World.size_setCell, World.size_drew]); omega))) | (with_reducible refine Below.drew ?_) | (refine Below.trans ?_ (by assumption)))))).mono ?_
  rintro e w1 ⟨rfl, hb1⟩
  have z1 := hb1.size
  have c1 := Below.cells hb1
  have f1 := Below.frozens hb1
  try simp only [World.size_alloc, World.size_setCell, World.size_drew] at z1 c1 f1
  go_wp2_with fail
  refine (HN.out _).mono ?_
  rintro e w' ⟨rfl, rfl⟩
  go_wp2_with fail
  refine bodyPost_ret (v := .tuple #[.agg #[.int .i64 0, .slice none 0 0], .int .i64 1]) (by simp [results, Tryz.f69, go_sem, ↓IntWalk.iteOmega, *]) rfl ?_
  exact ⟨rfl, (by repeat (first | (with_reducible exact Below.refl _ _) | ((with_reducible refine Below.alloc ?_ ?_ _); rotate_left; (next => ((try dsimp only); (try simp only [World.size_alloc, World.size_setCell, World.size_drew]); omega))) | ((with_reducible refine Below.setCell ?_ ?_ _); rotate_left; (next => ((try dsimp only); (try simp only [World.size_alloc, World.size_setCell, World.size_drew]); omega))) | (with_reducible refine Below.drew ?_) | ((with_reducible refine Below.trans ?_ (Below.mono hb1 ?_)); rotate_left; (next => ((try dsimp only); (try simp only [World.size_alloc, World.size_setCell, World.size_drew]); omega)))))⟩
end Go.Proofs.YtpomdnglknbanaaGreat

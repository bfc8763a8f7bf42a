/-
  The walk of win.Push.
-/
import Derived.Test.YtpomdnglknbanaaGreatWi
import Derived.Test.YtpomdnglknbanaaGreatCl
import Derived.Deep.RegionHeld3
import Derived.Deep.AppendLies
set_option linter.unusedSimpArgs false
set_option linter.unusedVariables false
namespace Go.Proofs.YtpomdnglknbanaaGreat
open Go.RowKit

/-- What a window is behind a push. -/
def pushd (z : Int) (l : List Int) (v : Int) : List Int := (if (l.length : Int) = z then l.drop 1 else l) ++ [v]

theorem own_set {w : World} {B e s n : Nat} {v : Value} {xs : List Value} (h : w.ownsRow B e s v n xs) {b : Nat} (hb : b < B) (o : Nat) (u : Value) : (w.setCell ⟨b, o, none⟩ u).ownsRow B e s v n xs := by
  refine ⟨h.1, h.2.imp id fun ⟨g, cap, cur, h1, h2, h3, h4⟩ => ⟨g, cap, cur, h1, h2, ?_, h4⟩⟩
  have : ¬ b = g := by omega
  simp [World.setCell, Array.getElem?_modify, this, h3]
theorem own_mono {w : World} {B B' e s n : Nat} {v : Value} {xs : List Value} (h : w.ownsRow B e s v n xs) (hb : B' ≤ B) : w.ownsRow B' e s v n xs :=
  ⟨h.1, h.2.imp id fun ⟨g, cap, cur, h1, h2, h3⟩ => ⟨g, cap, cur, h1, Nat.le_trans hb h2, h3⟩⟩
set_option maxRecDepth 100000 in
set_option maxHeartbeats 4000000 in
theorem push_grow (z v : Int) (A : Option Addr) (n c : Nat) (l : List Int) (w : World) (hr : Row w A n l) (hz : 1 ≤ z ∧ z ≤ 64) (hn : (n : Int) ≤ z) (hb : Btw 0 16777216 l) (hv : 0 ≤ v ∧ v ≤ 16777216) (hne : ¬ (n : Int) = z) :
    Calls Tryz.prog 69 #[.agg #[.int .i64 z, .slice A n c], .int .i64 v] w fun e w' => ∃ A' c', e = .returned (.tuple #[.agg #[.int .i64 z, .slice A' (n + 1) c'], .int .i64 0]) ∧ w'.ownsRow w.heap.size 3 1 (.slice A' (n + 1) c') (n + 1) ((l ++ [v]).map (Value.int .i64)) ∧ Below w.heap.size w w' := by
  have hc : ∀ w', Row w' A n l → _ := fun w' h => wcheck_ok z A n c l w' h hz hn hb
  have hcl : ∀ w', Row w' A n l → _ := fun w' h => clone_own A n c l w' h (by omega)
  have HC := Lib.hid hc
  have HCl := Lib.hid hcl
  have HR := Lib.hid hr
  have hne2 : ((n : Int) == z) = false := by simpa using hne
  obtain ⟨v0, v1⟩ := hv
  obtain ⟨i0, hi, hz0, hz1, hz2⟩ := info_parts info_int
  have qa := alloc_cells
  have qf := alloc_frozens
  clear hc hcl hr hb
  go_enter Tryz.func69, Tryz.ntmps69
  go_wp2_with fail
  refine (HC.out _ (HR.out.below (by repeat (first | (with_reducible exact Below.refl _ _) | ((with_reducible refine Below.alloc ?_ ?_ _); rotate_left; (next => ((try dsimp only); (try simp only [World.size_alloc, World.size_setCell, World.size_drew]); omega))) | ((with_reducible refine Below.setCell ?_ ?_ _); rotate_left; (next => ((try dsimp only); (try simp only [World.size_alloc, World.size_setCell, World.size_drew]); omega))) | (with_reducible refine Below.drew ?_) | (refine Below.trans ?_ (by assumption)))))).mono ?_
  rintro e w1 ⟨rfl, hb1⟩
  have z1 := hb1.size
  have c1 := Below.cells hb1
  have f1 := Below.frozens hb1
  try simp only [World.size_alloc, World.size_setCell, World.size_drew] at z1 c1 f1
  go_wp2_with fail
  refine (val_ok v v0 v1 _).mono ?_
  rintro e w' ⟨rfl, rfl⟩
  go_wp2_with fail
  have KZ : w1.cell? ⟨w.heap.size, 0, none⟩ = some (.int .i64 z) := by simp [go_sem, ↓IntWalk.iteOmega, *]
  have KA : w1.cell? ⟨w.heap.size + 1, 0, none⟩ = some (.int .i64 0) := by simp [go_sem, ↓IntWalk.iteOmega, *]
  have KB : w1.cell? ⟨w.heap.size + 1, 1, none⟩ = some (.slice none 0 0) := by simp [go_sem, ↓IntWalk.iteOmega, *]
  have KF : ∀ o, w1.frozen? ⟨w.heap.size + 1, o, none⟩ = false := by intro o; simp [go_sem, ↓IntWalk.iteOmega, *]
  clear c1 f1 qa qf
  go_region_held3 (fun w' => w'.cell? ⟨w.heap.size, 0, none⟩ = some (.int .i64 z)) (first | assumption | exact kk2 | (rw [alloc_cells, if_pos (by omega)]; assumption) | (refine (alloc_cells w1 _ _ _ _).trans ?_; rw [if_pos (by omega)]; exact KZ) | (rw [World.cell?_setCell_far _ _ _ _ (by simp), World.cell?_setCell_far _ _ _ _ (by simp)]; exact kk2))
    (first
      | (refine (HCl.out _ (HR.out.below (by repeat (first | (with_reducible exact Below.refl _ _) | ((with_reducible refine Below.alloc ?_ ?_ _); rotate_left; (next => ((try dsimp only); (try simp only [World.size_alloc, World.size_setCell, World.size_drew]); omega))) | ((with_reducible refine Below.setCell ?_ ?_ _); rotate_left; (next => ((try dsimp only); (try simp only [World.size_alloc, World.size_setCell, World.size_drew]); omega))) | (with_reducible refine Below.drew ?_) | ((with_reducible refine Below.trans ?_ (Below.mono hb1 ?_)); rotate_left; (next => ((try dsimp only); (try simp only [World.size_alloc, World.size_setCell, World.size_drew]); omega))))))).mono ?_; rintro e wk ⟨vk, rfl, ownk, hbk⟩; obtain ⟨Ak, ck, rfl, pk, qk, nk⟩ := own_form ownk; have zk := hbk.size; (try simp only [World.size_alloc, World.size_setCell, World.size_drew] at zk); have bk : Below (w.heap.size + 2) w1 wk := (by repeat (first | (with_reducible exact Below.refl _ _) | ((with_reducible refine Below.alloc ?_ ?_ _); rotate_left; (next => ((try dsimp only); (try simp only [World.size_alloc, World.size_setCell, World.size_drew]); omega))) | ((with_reducible refine Below.setCell ?_ ?_ _); rotate_left; (next => ((try dsimp only); (try simp only [World.size_alloc, World.size_setCell, World.size_drew]); omega))) | (with_reducible refine Below.drew ?_) | ((with_reducible refine Below.trans ?_ (Below.mono hbk ?_)); rotate_left; (next => ((try dsimp only); (try simp only [World.size_alloc, World.size_setCell, World.size_drew]); omega))))); have kk := (bk.cell (p := ⟨w.heap.size, 0, none⟩) (by (try simp only [World.size_alloc, World.size_drew]); omega)).trans KZ)
      | (refine step_append_lies _ (by rfl) _ _ _ (by rfl) _ 3 i0 _ 1 8 Tryz.underlying41 hi hz0 hz1 hz2 rfl (by omega) _ n (l.map (Value.int .i64)) (by rfl) (ownk.alloc _)
            ⟨wk.heap.size, 0, none⟩ 1 1 [.int .i64 v] (by rfl) (by rfl) (World.news_of_block (cs := #[.int .i64 v]) (t := 3) (fr := (0, 0)) (heap_alloc_new wk _)) (app1_one _ _)
            (by omega) (by unfold maxLen; omega) (by omega) (by simp; omega) (wk.heap.size + 1) (by simp) ?_; intro gg cap wq ownq grq atq ltq;
          have hbq : Below (w.heap.size + 2) w1 wq := (bk.alloc (by omega) _).grown grq (by simp; omega) (fun k e => by have := (World.ownsRow.lt ownk _ e).1; simp only [World.size_alloc, World.size_drew] at this; omega);
          have kk2 := (hbq.cell (p := ⟨w.heap.size, 0, none⟩) (by (try simp only [World.size_alloc, World.size_drew]); omega)).trans KZ;
          have ka := (hbq.cell (p := ⟨w.heap.size + 1, 0, none⟩) (by (try simp only [World.size_alloc, World.size_drew]); omega)).trans KA;
          have kb := (hbq.cell (p := ⟨w.heap.size + 1, 1, none⟩) (by (try simp only [World.size_alloc, World.size_drew]); omega)).trans KB;
          have kf := fun o => (hbq.frozen (p := ⟨w.heap.size + 1, o, none⟩) (by (try simp only [World.size_alloc, World.size_drew]); omega)).trans (KF o); clear grq)
      | (refine step_append_lies _ (by rfl) _ _ _ (by rfl) _ 3 i0 _ 1 8 Tryz.underlying41 hi hz0 hz1 hz2 rfl (by omega) _ n (l.map (Value.int .i64)) (by rfl) ownk
            ⟨w1.heap.size, 0, none⟩ 1 1 [.int .i64 v] (by rfl) (by rfl) (World.news_of_block (cs := #[.int .i64 v]) (t := 3) (fr := (0, 0)) ((hbk.block _ (by simp)).trans (heap_alloc_new w1 _))) (app1_one _ _)
            (by omega) (by unfold maxLen; omega) (by omega) (by simp; omega) wk.heap.size (by simp) ?_; intro gg cap wq ownq grq atq ltq;
          have hbq : Below (w.heap.size + 2) w1 wq := bk.grown grq (by omega) (fun k e => by have := (World.ownsRow.lt ownk _ e).1; simp only [World.size_alloc, World.size_drew] at this; omega);
          have kk2 := (hbq.cell (p := ⟨w.heap.size, 0, none⟩) (by (try simp only [World.size_alloc, World.size_drew]); omega)).trans KZ;
          have ka := (hbq.cell (p := ⟨w.heap.size + 1, 0, none⟩) (by (try simp only [World.size_alloc, World.size_drew]); omega)).trans KA;
          have kb := (hbq.cell (p := ⟨w.heap.size + 1, 1, none⟩) (by (try simp only [World.size_alloc, World.size_drew]); omega)).trans KB;
          have kf := fun o => (hbq.frozen (p := ⟨w.heap.size + 1, o, none⟩) (by (try simp only [World.size_alloc, World.size_drew]); omega)).trans (KF o); clear grq))
  all_goals
    have bel : Below w.heap.size w ((wq.setCell ⟨w.heap.size + 1, 0, none⟩ (.int .i64 z)).setCell ⟨w.heap.size + 1, 1, none⟩ (.slice (some ⟨gg, 0, none⟩) (n + 1) cap)) := (by repeat (first | (with_reducible exact Below.refl _ _) | ((with_reducible refine Below.alloc ?_ ?_ _); rotate_left; (next => ((try dsimp only); (try simp only [World.size_alloc, World.size_setCell, World.size_drew]); omega))) | ((with_reducible refine Below.setCell ?_ ?_ _); rotate_left; (next => ((try dsimp only); (try simp only [World.size_alloc, World.size_setCell, World.size_drew]); omega))) | (with_reducible refine Below.drew ?_) | ((with_reducible refine Below.trans ?_ (Below.mono hbq ?_)); rotate_left; (next => ((try dsimp only); (try simp only [World.size_alloc, World.size_setCell, World.size_drew]); omega))) | ((with_reducible refine Below.trans ?_ (Below.mono hb1 ?_)); rotate_left; (next => ((try dsimp only); (try simp only [World.size_alloc, World.size_setCell, World.size_drew]); omega)))))
    have own2 : wq.ownsRow (w.heap.size + 2) 3 1 (.slice (some ⟨gg, 0, none⟩) (n + 1) cap) (n + 1) ((l ++ [v]).map (Value.int .i64)) := by
      simpa using own_mono (B' := w.heap.size + 2) ownq (by (try simp only [World.size_alloc, World.size_drew]); omega)
    have hin := own_mono (own_set (own_set own2 (b := w.heap.size + 1) (by omega) 0 (.int .i64 z)) (b := w.heap.size + 1) (by omega) 1 (.slice (some ⟨gg, 0, none⟩) (n + 1) cap)) (B' := w.heap.size) (by omega)
    have HI := Lib.hid hin
    have HB := Lib.hid bel
    clear bel own2 hin ownq ownk hbq hbk bk
    go_wp2_with fail
    refine bodyPost_ret (v := .tuple #[.agg #[.int .i64 z, .slice (some ⟨gg, 0, none⟩) (n + 1) cap], .int .i64 0]) (by simp [results, Tryz.f69, go_sem, ↓IntWalk.iteOmega, *]) rfl ?_
    exact ⟨_, _, rfl, HI.out, HB.out⟩
end Go.Proofs.YtpomdnglknbanaaGreat

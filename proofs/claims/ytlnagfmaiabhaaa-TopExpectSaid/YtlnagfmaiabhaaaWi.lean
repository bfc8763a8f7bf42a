/-
  The walks of win.Check and of the statements' own window; chen.Late.
-/
import Derived.Test.YtlnagfmaiabhaaaVal
import Derived.Test.YtlnagfmaiabhaaaSl
import Derived.Test.YtlnagfmaiabhaaaMm
import Derived.Laws.AppendOwnNone
set_option linter.unusedSimpArgs false
set_option linter.unusedVariables false
namespace Go.Proofs.Ytlnagfmaiabhaaa
open Go.RowKit

/-- The window of l. -/
def wind (l : List Int) : List Int := (1 :: vals l).drop ((1 :: vals l).length - 64)
theorem wind_facts (l : List Int) : ∃ (ys : List Int) (n : Nat), wind l = ys ∧ ys.length = n ∧ 1 ≤ n ∧ n ≤ 64 ∧ Btw 0 16777216 ys := by
  refine ⟨wind l, _, rfl, rfl, ?_, ?_, ?_⟩
  · have := vals_len l; simp [wind]; omega
  · have := vals_len l; simp [wind]; omega
  · refine Btw.drop (fun x hx => ?_) _
    rcases List.mem_cons.1 hx with rfl | hx
    · omega
    · exact vals_btw l x hx

set_option maxHeartbeats 1000000 in
theorem wcheck_ok (z : Int) (A : Option Addr) (n c : Nat) (l : List Int) (w : World) (hr : Row w A n l) (hz : 1 ≤ z ∧ z ≤ 64) (hn : (n : Int) ≤ z) (hb : Btw 0 16777216 l) :
    Calls Try.prog 79 #[.agg #[.int .i64 z, .slice A n c]] w fun e w' => e = .returned (.int .i64 0) ∧ Below w.heap.size w w' := by
  have hc : ∀ w', Row w' A n l → _ := fun w' h => list_ok A n c l w' h (by omega) hb
  have HC := Lib.hid hc
  have HR := Lib.hid hr
  obtain ⟨h1, h2⟩ := hz
  have h3 : ¬ z < (n : Int) := by omega
  clear hc hr hb
  have qa := alloc_cells
  have qf := alloc_frozens
  go_enter Try.func79, Try.ntmps79
  go_wp2_with fail
  refine (HC.out _ (HR.out.below (by repeat (first | (with_reducible exact Below.refl _ _) | ((with_reducible refine Below.alloc ?_ ?_ _); rotate_left; (next => ((try dsimp only); (try simp only [World.size_alloc, World.size_setCell, World.size_drew]); omega))) | ((with_reducible refine Below.setCell ?_ ?_ _); rotate_left; (next => ((try dsimp only); (try simp only [World.size_alloc, World.size_setCell, World.size_drew]); omega))) | (with_reducible refine Below.drew ?_) | (refine Below.trans ?_ (by assumption)))))).mono ?_
  rintro e w' ⟨rfl, rfl⟩
  go_wp2_with fail
  go_ret
  exact ⟨rfl, (by repeat (first | (with_reducible exact Below.refl _ _) | ((with_reducible refine Below.alloc ?_ ?_ _); rotate_left; (next => ((try dsimp only); (try simp only [World.size_alloc, World.size_setCell, World.size_drew]); omega))) | ((with_reducible refine Below.setCell ?_ ?_ _); rotate_left; (next => ((try dsimp only); (try simp only [World.size_alloc, World.size_setCell, World.size_drew]); omega))) | (with_reducible refine Below.drew ?_) | (refine Below.trans ?_ (by assumption))))⟩

theorem row_drop {w : World} {b off n k : Nat} {l : List Int} (h : Row w (some ⟨b, off, none⟩) n l) (hk : k ≤ n) : Row w (some ⟨b, off + k, none⟩) (n - k) (l.drop k) := by
  refine ⟨by rw [List.length_drop, h.1], fun hn => ?_⟩
  obtain ⟨b', off', e, lt, hc⟩ := h.2 (by omega)
  injection e with e
  injection e with e1 e2
  subst e1 e2
  refine ⟨b, off + k, rfl, lt, fun j hj => ?_⟩
  rw [show off + k + j = off + (k + j) by omega, hc (k + j) (by omega)]
  simp [List.getD, List.getElem?_drop]

theorem row_set {w : World} {b off n : Nat} {l : List Int} (h : Row w (some ⟨b, off, none⟩) n l) {p : Addr} (hp : p.block < b) (v : Value) : Row (w.setCell p v) (some ⟨b, off, none⟩) n l := by
  refine ⟨h.1, fun hn => ?_⟩
  obtain ⟨b', off', e, lt, hc⟩ := h.2 hn
  injection e with e
  injection e with e1 e2
  subst e1 e2
  refine ⟨b, off, rfl, by simpa using lt, fun j hj => ?_⟩
  rw [World.cell?_setCell_other w p ⟨b, off + j, none⟩ v (fun e => by subst e; simp at hp)]
  exact hc j hj

set_option maxHeartbeats 4000000 in
theorem window_any (A : Option Addr) (n c : Nat) (l : List Int) (w : World) (h : InRow w A n c l) (ws : List Int) (m : Nat) (hy : wind l = ws) (hm : ws.length = m) :
    Calls Try.prog 51 #[.slice A n c] w fun e w' => ∃ A' c', e = .returned (.agg #[.int .i64 64, .slice A' m c']) ∧ InRow w' A' m c' ws ∧ Below w.heap.size w w' := by
  obtain ⟨ys, k, hk, hkl, hk64, hkb⟩ := vals_facts l
  have hv : ∀ w', InRow w' A n c l → _ := fun w' h => values_at A n c l w' h ys k hk hkl
  have HV := Lib.hid hv
  have HIn := Lib.hid h
  unfold wind at hy
  rw [hk] at hy
  obtain ⟨i0, hi, hz0, hz1, hz2⟩ := info_parts info_int
  have hlen1 : (1 :: ys).length = k + 1 := by simp [hkl]
  rw [hlen1] at hy
  have hmk : m = k + 1 - (k + 1 - 64) := by rw [← hm, ← hy]; simp [hkl]
  have HY := Lib.hid hy
  have HKL := Lib.hid hkl
  have HM := Lib.hid hm
  have HMK := Lib.hid hmk
  have qa := alloc_cells
  have qf := alloc_frozens
  clear hv h hk hkl hy hlen1 hm hmk
  go_enter Try.func51, Try.ntmps51
  go_wp2_with fail
  refine (HV.out _ (HIn.out.below (by repeat (first | (with_reducible exact Below.refl _ _) | ((with_reducible refine Below.alloc ?_ ?_ _); rotate_left; (next => ((try dsimp only); (try simp only [World.size_alloc, World.size_setCell, World.size_drew]); omega))) | ((with_reducible refine Below.setCell ?_ ?_ _); rotate_left; (next => ((try dsimp only); (try simp only [World.size_alloc, World.size_setCell, World.size_drew]); omega))) | (with_reducible refine Below.drew ?_) | (refine Below.trans ?_ (by assumption)))))).mono ?_
  rintro e w1 ⟨A1, c1, rfl, hr1, hb1⟩
  have z1 := hb1.size
  simp only [World.size_alloc] at z1
  have own0 : ((w.alloc (.cells #[.int .i64 0, .slice none 0 0] 73)).alloc (.cells #[.int .i64 1] 3)).ownsRow (w.heap.size + 1) 3 1 (.slice (some ⟨w.heap.size + 1, 0, none⟩) 1 1) 1 [.int .i64 1] := by
    refine ⟨rfl, .inr ⟨w.heap.size + 1, 1, #[.int .i64 1], rfl, Nat.le_refl _, ?_, Nat.le_refl _, by unfold maxLen; omega, rfl, rfl⟩⟩
    have := heap_alloc_new (w.alloc (.cells #[.int .i64 0, .slice none 0 0] 73)) (.cells #[.int .i64 1] 3)
    simpa using this
  have own1 := own_below own0 hb1
  have b1 : Below w.heap.size w w1 := (by repeat (first | (with_reducible exact Below.refl _ _) | ((with_reducible refine Below.alloc ?_ ?_ _); rotate_left; (next => ((try dsimp only); (try simp only [World.size_alloc, World.size_setCell, World.size_drew]); omega))) | ((with_reducible refine Below.setCell ?_ ?_ _); rotate_left; (next => ((try dsimp only); (try simp only [World.size_alloc, World.size_setCell, World.size_drew]); omega))) | (with_reducible refine Below.drew ?_) | ((with_reducible refine Below.trans ?_ (Below.mono hb1 ?_)); rotate_left; (next => ((try dsimp only); (try simp only [World.size_alloc, World.size_setCell, World.size_drew]); omega)))))
  have k1 := Below.cells hb1
  have kf := Below.frozens hb1
  simp only [World.size_alloc] at k1 kf
  have g0 : w1.cell? ⟨w.heap.size, 0, none⟩ = some (.int .i64 0) := by simp [go_sem, ↓IntWalk.iteOmega, *]
  have g1 : w1.cell? ⟨w.heap.size, 1, none⟩ = some (.slice none 0 0) := by simp [go_sem, ↓IntWalk.iteOmega, *]
  have f0 : w1.frozen? ⟨w.heap.size, 0, none⟩ = false := by simp [go_sem, ↓IntWalk.iteOmega, *]
  have f1 : w1.frozen? ⟨w.heap.size, 1, none⟩ = false := by simp [go_sem, ↓IntWalk.iteOmega, *]
  obtain ⟨hrow, _, _, hnil⟩ := hr1
  have HR := Lib.hid hrow
  have HB := Lib.hid b1
  clear hrow k1 kf qa qf own0 hb1 b1
  rcases A1 with _ | ad
  · obtain ⟨rfl, rfl⟩ := hnil rfl
    obtain rfl := HMK.out
    have hys : ys = [] := List.eq_nil_of_length_eq_zero HKL.out
    subst hys
    go_wp2_with (at_builtin; refine wpList_append_own_none rfl _ _ 32 rfl (w.heap.size + 1) 3 i0 1 Try.underlying32 hi _ 1 [.int .i64 1] rfl own1 rfl ?_)
    go_wp2_with fail
    have hws : ws = [1] := by rw [← HY.out]; rfl
    subst hws
    have r0 : Row w1 (some ⟨w.heap.size + 1, 0, none⟩) 1 [1] := Row.of_own (l := [1]) own1
    refine bodyPost_ret (v := .agg #[.int .i64 64, .slice (some ⟨w.heap.size + 1, 0, none⟩) 1 1]) (by simp [results, Try.results51, go_sem, ↓IntWalk.iteOmega, *]) rfl ?_
    exact ⟨_, 1, rfl, ⟨row_set (row_set r0 (by simp) _) (by simp) _, Nat.le_refl _, by unfold maxLen; omega, fun h => by cases h⟩, (HB.out.setCell (Nat.le_refl _) _).setCell (Nat.le_refl _) _⟩
  · have hlen : (ys.map (Value.int .i64)).length = k * 1 := by simp [HKL.out]
    have hca : ∀ j u, (ys.map (Value.int .i64))[j]? = some u → w1.cell? (ad.add j) = some u := HR.out.cells0
    have HLen := Lib.hid hlen
    have HCa := Lib.hid hca
    clear hlen hca
    go_wp2_with (at_builtin; refine wpList_append_own _ rfl _ _ 32 rfl (w.heap.size + 1) 3 i0 (.int .i64 0) 1 8 Try.underlying32 hi hz0 hz1 hz2 rfl (by decide) _ _ _ rfl own1 ad k c1 (ys.map (Value.int .i64)) rfl HLen.out HCa.out (ints_one ys) (by unfold maxLen; omega) (by omega) (by omega) ?_)
    intro v2 w2 own2 gr2 _
    have own3 : w2.ownsRow (w.heap.size + 1) 3 1 v2 (1 + k) ((1 :: ys).map (Value.int .i64)) := by simpa using own2
    obtain ⟨g, cap, rfl, hg, hlt⟩ := own3.form (by omega)
    obtain ⟨_, _, e, p1, p2, _⟩ := own_form own3
    injection e with e1 e2 e3
    clear e1 e2
    subst e3
    have r2 := Row.of_own own3
    have hne : some w.heap.size ≠ Value.ownBlock (.slice (some ⟨w.heap.size + 1, 0, none⟩) 1 1) := by simp [Value.ownBlock]
    have g0' := gr2.cell g0 hne
    have g1' := gr2.cell g1 hne
    have f0' : w2.frozen? ⟨w.heap.size, 0, none⟩ = false := (World.frozen?_of_block (gr2.block w.heap.size (by omega) hne)).trans f0
    have f1' : w2.frozen? ⟨w.heap.size, 1, none⟩ = false := (World.frozen?_of_block (gr2.block w.heap.size (by omega) hne)).trans f1
    have bel2 := HB.out.grown gr2 (by omega) (fun g hg => by simp [Value.ownBlock] at hg; omega)
    have HR2 := Lib.hid r2
    have HB2 := Lib.hid bel2
    have hp2 := p2
    unfold maxLen at hp2
    clear own1 own2 own3 gr2 g0 g1 f0 f1 r2 bel2 hne
    by_cases h64 : k = 64
    · subst h64
      obtain rfl : m = 64 := HMK.out
      have hws : ws = (1 :: ys).drop 1 := HY.out.symm
      subst hws
      have hc1 : ¬ cap = 1 := by omega
      go_wp2_with fail
      have r3 := row_drop HR2.out (k := 1) (by omega)
      refine bodyPost_ret (v := .agg #[.int .i64 64, .slice (some ⟨g, 0 + 1, none⟩) 64 (cap - 1)]) (by simp [results, Try.results51, go_sem, ↓IntWalk.iteOmega, *]) rfl ?_
      exact ⟨_, _, rfl, ⟨row_set (row_set r3 (by simp; omega) _) (by simp; omega) _, by omega, by unfold maxLen; omega, fun h => by cases h⟩, (HB2.out.setCell (Nat.le_refl _) _).setCell (Nat.le_refl _) _⟩
    · obtain rfl : m = 1 + k := by have := HMK.out; omega
      have hws : ws = 1 :: ys := by rw [← HY.out, show k + 1 - 64 = 0 by omega]; rfl
      subst hws
      have hneg : (1 : Int) + k - 64 ≤ 0 := by omega
      have hc1 : ¬ cap = 0 := by omega
      go_wp2_with fail
      refine bodyPost_ret (v := .agg #[.int .i64 64, .slice (some ⟨g, 0, none⟩) (1 + k) cap]) (by simp [results, Try.results51, go_sem, ↓IntWalk.iteOmega, *]) rfl ?_
      exact ⟨_, _, rfl, ⟨row_set (row_set HR2.out (by simp; omega) _) (by simp; omega) _, by omega, by unfold maxLen; omega, fun h => by cases h⟩, (HB2.out.setCell (Nat.le_refl _) _).setCell (Nat.le_refl _) _⟩
end Go.Proofs.Ytlnagfmaiabhaaa


/-
  The walks of win.Check and of the statements' own window; chen.Late.
-/
import Derived.Test.YtpomdnglknbanaaGreatVal
import Derived.Test.YtpomdnglknbanaaGreatSl
import Derived.Test.YtpomdnglknbanaaGreatMm
import Derived.Laws.AppendOwnNone
set_option linter.unusedSimpArgs false
set_option linter.unusedVariables false
namespace Go.Proofs.YtpomdnglknbanaaGreat
open Go.RowKit

/-- The window of l. -/
def wind (l : List Int) : List Int := (1 :: vals l).drop ((1 :: vals l).length - 64)
theorem wind_facts (l : List Int) : ∃ (ys : List Int) (n : Nat), wind l = ys ∧ ys.length = n ∧ 1 ≤ n ∧ n ≤ 64 ∧ Btw 0 16777216 ys := by
  refine ⟨wind l, _, rfl, rfl, ?_, ?_, ?_⟩
  · have := vals_len l; simp [wind]; omega
  · have := vals_len l; simp [wind]; omega
  · refine Btw.drop (fun x hx => ?_) _
    rcases List.mem_cons.1 hx with rfl | hx
    · omega
    · exact vals_btw l x hx

set_option maxHeartbeats 1000000 in
theorem wcheck_ok (z : Int) (A : Option Addr) (n c : Nat) (l : List Int) (w : World) (hr : Row w A n l) (hz : 1 ≤ z ∧ z ≤ 64) (hn : (n : Int) ≤ z) (hb : Btw 0 16777216 l) :
    Calls Tryz.prog 77 #[.agg #[.int .i64 z, .slice A n c]] w fun e w' => e = .returned (.int .i64 0) ∧ Below w.heap.size w w' := by
  have hc : ∀ w', Row w' A n l → _ := fun w' h => list_ok A n c l w' h (by omega) hb
  have HC := Lib.hid hc
  have HR := Lib.hid hr
  obtain ⟨h1, h2⟩ := hz
  have h3 : ¬ z < (n : Int) := by omega
  clear hc hr hb
  have qa := alloc_cells
  have qf := alloc_frozens
  go_enter Tryz.func77, Tryz.ntmps77
  go_wp2_with fail
  refine (HC.out _ (HR.out.below (by repeat (first | (with_reducible exact Below.refl _ _) | ((with_reducible refine Below.alloc ?_ ?_ _); rotate_left; (next => ((try dsimp only); (try simp only [World.size_alloc, World.size_setCell, World.size_drew]); omega))) | ((with_reducible refine Below.setCell ?_ ?_ _); rotate_left; (next => ((try dsimp only); (try simp only [World.size_alloc, World.size_setCell, World.size_drew]); omega))) | (with_reducible refine Below.drew ?_) | (refine Below.trans ?_ (by assumption)))))).mono ?_
  rintro e w' ⟨rfl, rfl⟩
  go_wp2_with fail
  go_ret
  exact ⟨rfl, (by repeat (first | (with_reducible exact Below.refl _ _) | ((with_reducible refine Below.alloc ?_ ?_ _); rotate_left; (next => ((try dsimp only); (try simp only [World.size_alloc, World.size_setCell, World.size_drew]); omega))) | ((with_reducible refine Below.setCell ?_ ?_ _); rotate_left; (next => ((try dsimp only); (try simp only [World.size_alloc, World.size_setCell, World.size_drew]); omega))) | (with_reducible refine Below.drew ?_) | (refine Below.trans ?_ (by assumption))))⟩

theorem row_drop {w : World} {b off n k : Nat} {l : List Int} (h : Row w (some ⟨b, off, none⟩) n l) (hk : k ≤ n) : Row w (some ⟨b, off + k, none⟩) (n - k) (l.drop k) := by
  refine ⟨by rw [List.length_drop, h.1], fun hn => ?_⟩
  obtain ⟨b', off', e, lt, hc⟩ := h.2 (by omega)
  injection e with e
  injection e with e1 e2
  subst e1 e2
  refine ⟨b, off + k, rfl, lt, fun j hj => ?_⟩
  rw [show off + k + j = off + (k + j) by omega, hc (k + j) (by omega)]
  simp [List.getD, List.getElem?_drop]

theorem row_set {w : World} {b off n : Nat} {l : List Int} (h : Row w (some ⟨b, off, none⟩) n l) {p : Addr} (hp : p.block < b) (v : Value) : Row (w.setCell p v) (some ⟨b, off, none⟩) n l := by
  refine ⟨h.1, fun hn => ?_⟩
  obtain ⟨b', off', e, lt, hc⟩ := h.2 hn
  injection e with e
  injection e with e1 e2
  subst e1 e2
  refine ⟨b, off, rfl, by simpa using lt, fun j hj => ?_⟩
  rw [World.cell?_setCell_other w p ⟨b, off + j, none⟩ v (fun e => by subst e; simp at hp)]
  exact hc j hj

end Go.Proofs.YtpomdnglknbanaaGreat

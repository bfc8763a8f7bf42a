/-
  The closure of Leave; slices.IndexFunc and slices.DeleteFunc with it, where no sub is of this name.
-/
import Derived.Test.YtpomdnglknbanaaNm
set_option linter.unusedSimpArgs false
set_option linter.unusedVariables false
namespace Go.Proofs.Ytpomdnglknbanaa
open Go Go.RowKit
def hitI (id : ByteArray) (u : Sub) : Bool := u.id.toList == id.toList
set_option maxHeartbeats 2000000 in
theorem leave1_ok (s id : ByteArray) (x : Int) (on : Bool) (b1 : Nat) (r : Bool) (w : World) (hc1 : w.cell? ⟨b1, 0, none⟩ = some (.string id)) (hb1 : b1 < w.heap.size) (hr1 : (s.toList == id.toList) = r) :
    Calls Try.prog 125 #[.agg #[.string s, .int .i64 x, .bool on], .pointer (some ⟨b1, 0, none⟩)] w fun e w' => e = .returned (.bool r) ∧ Below w.heap.size w w' := by
  have HR := Lib.hid hr1
  have qa := alloc_cells
  have qf := alloc_frozens
  clear hr1
  go_enter Try.func125, Try.ntmps125
  go_wp2_with fail
  go_ret
  exact ⟨by rw [← HR.out]; rfl, (by repeat (first | (with_reducible exact Below.refl _ _) | ((with_reducible refine Below.alloc ?_ ?_ _); rotate_left; (next => ((try dsimp only); (try simp only [World.size_alloc, World.size_setCell, World.size_drew]); omega))) | ((with_reducible refine Below.setCell ?_ ?_ _); rotate_left; (next => ((try dsimp only); (try simp only [World.size_alloc, World.size_setCell, World.size_drew]); omega))) | (with_reducible refine Below.drew ?_) | (refine Below.trans ?_ (by assumption))))⟩
set_option maxRecDepth 100000 in
set_option maxHeartbeats 4000000 in
theorem index_leave (A : Option Addr) (n c : Nat) (L : List Sub) (id : ByteArray) (b1 : Nat) (w : World) (hr : SRow w A n L) (hn : n ≤ 1000) (hc1 : w.cell? ⟨b1, 0, none⟩ = some (.string id)) :
    Calls Try.prog 120 #[.slice A n c, .func (.func 125) #[] #[.pointer (some ⟨b1, 0, none⟩)]] w fun e w' => e = .returned (.int .i64 (idxS (hitI id) L)) ∧ Below w.heap.size w w' := by
  have hl := hr.1
  have HR := Lib.hid hr
  have lb1 := World.block_lt_of_cell? w _ hc1
  have HC1 := Lib.hid hc1
  have HF := Lib.hid leave1_ok
  clear hr hc1
  have qa := alloc_cells
  have qf := alloc_frozens
  go_enter Try.func120, Try.ntmps120
  go_wp2_with fail
  go_loopw [8] (fun v wr => ∃ k : Nat, k ≤ n ∧ v = .int .i64 k ∧ (∀ j, j < k → hitI id (L.getD j default) = false) ∧ Below w.heap.size w wr) (fun v _ => n - (intOf v).toNat)
  case atStart => exact ⟨0, Nat.zero_le _, rfl, fun j hj => absurd hj (by omega), (by repeat (first | (with_reducible exact Below.refl _ _) | ((with_reducible refine Below.alloc ?_ ?_ _); rotate_left; (next => ((try dsimp only); (try simp only [World.size_alloc, World.size_setCell, World.size_drew]); omega))) | ((with_reducible refine Below.setCell ?_ ?_ _); rotate_left; (next => ((try dsimp only); (try simp only [World.size_alloc, World.size_setCell, World.size_drew]); omega))) | (with_reducible refine Below.drew ?_) | (refine Below.trans ?_ (by assumption))))⟩
  case round =>
    obtain ⟨k, hk, rfl, hno, bel⟩ := hrel
    have sz0 := bel.size
    have cb1 : wr.cell? ⟨b1, 0, none⟩ = some (.string id) := (bel.cell (p := ⟨b1, 0, none⟩) lb1).trans HC1.out
    have bz1 : b1 < wr.heap.size := by omega
    by_cases hlt : k < n
    · obtain ⟨b, off, rfl, lb, hp⟩ := (HR.out.below bel).at hlt
      obtain ⟨u, huk⟩ : ∃ u, L.getD k default = u := ⟨_, rfl⟩
      rw [huk] at hp
      obtain ⟨k0, k1, k2⟩ := hp
      have B0 := Lib.hid bel
      obtain ⟨r1, hr1⟩ : ∃ r, (u.id.toList == id.toList) = r := ⟨_, rfl⟩
      have hh : hitI id u = r1 := hr1
      have HR1 := Lib.hid hr1
      cases r1 with
      | true =>
        have HKi := Lib.hid (idxS_some (p := hitI id) (L := L) (k := k) (by omega) (by rw [huk]; exact hh) hno)
        clear bel hno huk hh hr1
        go_wp2_with fail
        refine (HF.out _ id _ _ b1 true _ cb1 bz1 HR1.out).mono ?_
        rintro e w1 ⟨rfl, hb1⟩
        have z1 := hb1.size
        have c1 := Below.cells hb1
        have f1 := Below.frozens hb1
        try simp only [World.size_alloc, World.size_setCell, World.size_drew] at z1 c1 f1
        go_wp2_with fail
        go_ret
        exact ⟨by rw [HKi.out]; rfl, B0.out.trans (Below.mono hb1 sz0)⟩
      | false =>
        have HNo := Lib.hid (show ∀ j, j < k + 1 → hitI id (L.getD j default) = false from fun j hj => by
          rcases Nat.lt_or_ge j k with c | c
          · exact hno j c
          · obtain rfl : j = k := by omega
            rw [huk]; exact hh)
        clear bel hno huk hh hr1
        go_wp2_with fail
        refine (HF.out _ id _ _ b1 false _ cb1 bz1 HR1.out).mono ?_
        rintro e w1 ⟨rfl, hb1⟩
        have z1 := hb1.size
        have c1 := Below.cells hb1
        have f1 := Below.frozens hb1
        try simp only [World.size_alloc, World.size_setCell, World.size_drew] at z1 c1 f1
        go_wp2_with fail
        go_roundw
        case rel => exact ⟨k + 1, by omega, by go_num, HNo.out, B0.out.trans (Below.mono hb1 sz0)⟩
        case measure => simp [intOf]; omega
    · obtain rfl : n = k := by omega
      have HKi := Lib.hid (idxS_none (p := hitI id) (L := L) (fun j hj => hno j (by omega)))
      clear hno
      go_wp2_with fail
      go_ret
      exact ⟨by rw [HKi.out]; rfl, bel⟩
set_option maxHeartbeats 4000000 in
theorem delF_none (A : Option Addr) (n c : Nat) (L : List Sub) (id : ByteArray) (b1 : Nat) (w : World) (hr : SRow w A n L) (hn : n ≤ 1000) (hc1 : w.cell? ⟨b1, 0, none⟩ = some (.string id)) (hx : idxS (hitI id) L = -1) :
    Calls Try.prog 124 #[.slice A n c, .func (.func 125) #[] #[.pointer (some ⟨b1, 0, none⟩)]] w fun e w' => e = .returned (.slice A n c) ∧ Below w.heap.size w w' := by
  have HI := Lib.hid (index_leave A n c L id b1 w hr hn hc1)
  rw [hx] at HI
  clear hr hc1 hx
  go_enter Try.func124, Try.ntmps124
  go_wp2_with fail
  refine HI.out.mono ?_
  rintro e w1 ⟨rfl, hb1⟩
  go_wp2_with fail
  go_ret
  exact ⟨rfl, hb1⟩
end Go.Proofs.Ytpomdnglknbanaa

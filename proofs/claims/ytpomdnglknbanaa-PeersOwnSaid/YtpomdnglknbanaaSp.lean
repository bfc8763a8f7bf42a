/-
  The reference's SameWin, SamePeer, SamePeers at what reads alike; peersBegun.
-/
import Derived.Test.YtpomdnglknbanaaMh
import Derived.Test.YtpomdnglknbanaaSw
set_option linter.unusedSimpArgs false
set_option linter.unusedVariables false
namespace Go.Proofs.Ytpomdnglknbanaa
open Go.RowKit

set_option maxRecDepth 100000 in
set_option maxHeartbeats 4000000 in
theorem samePeer_ok (s : ByteArray) (a b d z x : Int) (A B : Option Addr) (n c c' : Nat) (l : List Int) (w : World) (ha : Row w A n l) (hb : Row w B n l) (hm : n ≤ 1000000000000000000) :
    Calls Try.prog 43 #[.agg #[.string s, .int .i64 a, .int .i64 b, .int .i64 d, .int .i64 z, .slice A n c, .int .i64 x], .agg #[.string s, .int .i64 a, .int .i64 b, .int .i64 d, .int .i64 z, .slice B n c', .int .i64 x]] w fun e w' => e = .returned (.bool true) ∧ Below w.heap.size w w' := by
  have HA := Lib.hid ha
  have HB := Lib.hid hb
  have HE := Lib.hid (fun w' ha hb => sameWin_ok z A B n c c' l w' ha hb hm)
  clear ha hb
  have qa := alloc_cells
  have qf := alloc_frozens
  go_enter Try.func43, Try.ntmps43
  go_wp2_with fail
  refine (HE.out _ (HA.out.below (by repeat (first | (with_reducible exact Below.refl _ _) | ((with_reducible refine Below.alloc ?_ ?_ _); rotate_left; (next => ((try dsimp only); (try simp only [World.size_alloc, World.size_setCell, World.size_drew]); omega))) | ((with_reducible refine Below.setCell ?_ ?_ _); rotate_left; (next => ((try dsimp only); (try simp only [World.size_alloc, World.size_setCell, World.size_drew]); omega))) | (with_reducible refine Below.drew ?_) | (refine Below.trans ?_ (by assumption))))) (HB.out.below (by repeat (first | (with_reducible exact Below.refl _ _) | ((with_reducible refine Below.alloc ?_ ?_ _); rotate_left; (next => ((try dsimp only); (try simp only [World.size_alloc, World.size_setCell, World.size_drew]); omega))) | ((with_reducible refine Below.setCell ?_ ?_ _); rotate_left; (next => ((try dsimp only); (try simp only [World.size_alloc, World.size_setCell, World.size_drew]); omega))) | (with_reducible refine Below.drew ?_) | (refine Below.trans ?_ (by assumption)))))).mono ?_
  rintro e w1 ⟨rfl, hb1⟩
  have z1 := hb1.size
  have c1 := Below.cells hb1
  have f1 := Below.frozens hb1
  try simp only [World.size_alloc, World.size_setCell, World.size_drew] at z1 c1 f1
  go_wp2_with fail
  go_ret
  exact ⟨rfl, (by repeat (first | (with_reducible exact Below.refl _ _) | ((with_reducible refine Below.alloc ?_ ?_ _); rotate_left; (next => ((try dsimp only); (try simp only [World.size_alloc, World.size_setCell, World.size_drew]); omega))) | ((with_reducible refine Below.setCell ?_ ?_ _); rotate_left; (next => ((try dsimp only); (try simp only [World.size_alloc, World.size_setCell, World.size_drew]); omega))) | (with_reducible refine Below.drew ?_) | ((with_reducible refine Below.trans ?_ (Below.mono hb1 ?_)); rotate_left; (next => ((try dsimp only); (try simp only [World.size_alloc, World.size_setCell, World.size_drew]); omega)))))⟩
set_option maxRecDepth 100000 in
set_option maxHeartbeats 8000000 in
theorem samePeers_fn (A B : Option Addr) (n c c' : Nat) (L : List Peer) (f g : Nat → Prop) (w : World) (ha : PRow w A n L f) (hb : PRow w B n L g) (hm : n ≤ 1000000000000000000) (hv : ∀ k, k < n → (L.getD k default).vals.length ≤ 1000000000000000000) :
    Calls Try.prog 107 #[.slice A n c, .slice B n c', .func (.func 43) #[] #[]] w fun e w' => e = .returned (.bool true) ∧ Below w.heap.size w w' := by
  have HA := Lib.hid ha
  have HB := Lib.hid hb
  have HV := Lib.hid hv
  have HE := Lib.hid samePeer_ok
  clear ha hb hv
  have qa := alloc_cells
  have qf := alloc_frozens
  go_enter Try.func107, Try.ntmps107
  go_wp2_with fail
  go_loopw [17] (fun i wr => ∃ k : Nat, k ≤ n ∧ i = .int .i64 k ∧ Below w.heap.size w wr) (fun i _ => n - (intOf i).toNat)
  case atStart => exact ⟨0, Nat.zero_le _, rfl, (by repeat (first | (with_reducible exact Below.refl _ _) | ((with_reducible refine Below.alloc ?_ ?_ _); rotate_left; (next => ((try dsimp only); (try simp only [World.size_alloc, World.size_setCell, World.size_drew]); omega))) | ((with_reducible refine Below.setCell ?_ ?_ _); rotate_left; (next => ((try dsimp only); (try simp only [World.size_alloc, World.size_setCell, World.size_drew]); omega))) | (with_reducible refine Below.drew ?_) | (refine Below.trans ?_ (by assumption))))⟩
  case round =>
    obtain ⟨k, hk, rfl, bel⟩ := hrel
    have sz0 := bel.size
    by_cases hlt : k < n
    · obtain ⟨b, off, rfl, lb, _, hp⟩ := (HA.out.below bel).at hlt
      obtain ⟨b', off', rfl, lb', _, hp'⟩ := (HB.out.below bel).at hlt
      have hvl := HV.out k hlt
      obtain ⟨p, hpk⟩ : ∃ p, L.getD k default = p := ⟨_, rfl⟩
      rw [hpk] at hp hp' hvl
      obtain ⟨k0, k1, k2, k3, k4, k6, C, cc, k5, hin, _⟩ := hp
      obtain ⟨j0, j1, j2, j3, j4, j6, D, cd, j5, hin', _⟩ := hp'
      have HIn := Lib.hid hin.1
      have HIn' := Lib.hid hin'.1
      have B0 := Lib.hid bel
      clear bel hin hin' hpk
      go_wp2_with fail
      refine (HE.out _ _ _ _ _ _ _ _ _ _ _ p.vals _ (HIn.out.below (by repeat (first | (with_reducible exact Below.refl _ _) | ((with_reducible refine Below.alloc ?_ ?_ _); rotate_left; (next => ((try dsimp only); (try simp only [World.size_alloc, World.size_setCell, World.size_drew]); omega))) | ((with_reducible refine Below.setCell ?_ ?_ _); rotate_left; (next => ((try dsimp only); (try simp only [World.size_alloc, World.size_setCell, World.size_drew]); omega))) | (with_reducible refine Below.drew ?_) | (refine Below.trans ?_ (by assumption))))) (HIn'.out.below (by repeat (first | (with_reducible exact Below.refl _ _) | ((with_reducible refine Below.alloc ?_ ?_ _); rotate_left; (next => ((try dsimp only); (try simp only [World.size_alloc, World.size_setCell, World.size_drew]); omega))) | ((with_reducible refine Below.setCell ?_ ?_ _); rotate_left; (next => ((try dsimp only); (try simp only [World.size_alloc, World.size_setCell, World.size_drew]); omega))) | (with_reducible refine Below.drew ?_) | (refine Below.trans ?_ (by assumption))))) (by omega)).mono ?_
      rintro e w1 ⟨rfl, hb1⟩
      have z1 := hb1.size
      have c1 := Below.cells hb1
      have f1 := Below.frozens hb1
      try simp only [World.size_alloc, World.size_setCell, World.size_drew] at z1 c1 f1
      go_wp2_with fail
      go_roundw
      case rel => exact ⟨k + 1, by omega, by go_num, B0.out.trans (Below.mono (by repeat (first | (with_reducible exact Below.refl _ _) | ((with_reducible refine Below.alloc ?_ ?_ _); rotate_left; (next => ((try dsimp only); (try simp only [World.size_alloc, World.size_setCell, World.size_drew]); omega))) | ((with_reducible refine Below.setCell ?_ ?_ _); rotate_left; (next => ((try dsimp only); (try simp only [World.size_alloc, World.size_setCell, World.size_drew]); omega))) | (with_reducible refine Below.drew ?_) | ((with_reducible refine Below.trans ?_ (Below.mono hb1 ?_)); rotate_left; (next => ((try dsimp only); (try simp only [World.size_alloc, World.size_setCell, World.size_drew]); omega))))) sz0)⟩
      case measure => simp [intOf]; omega
    · obtain rfl : n = k := by omega
      go_wp2_with fail
      go_ret
      exact ⟨rfl, bel⟩
set_option maxHeartbeats 4000000 in
theorem samePeers_ok (A B : Option Addr) (n c c' : Nat) (L : List Peer) (f g : Nat → Prop) (w : World) (ha : PRow w A n L f) (hb : PRow w B n L g) (hm : n ≤ 1000000000000000000) (hv : ∀ k, k < n → (L.getD k default).vals.length ≤ 1000000000000000000) :
    Calls Try.prog 39 #[.slice A n c, .slice B n c'] w fun e w' => e = .returned (.bool true) ∧ Below w.heap.size w w' := by
  have HE := Lib.hid (samePeers_fn A B n c c' L f g w ha hb hm hv)
  clear ha hb hv
  go_enter Try.func39, Try.ntmps39
  go_wp2_with fail
  refine (HE.out).mono ?_
  rintro e w1 ⟨rfl, hb1⟩
  have z1 := hb1.size
  have c1 := Below.cells hb1
  have f1 := Below.frozens hb1
  try simp only [World.size_alloc, World.size_setCell, World.size_drew] at z1 c1 f1
  go_wp2_with fail
  go_ret
  exact ⟨rfl, hb1⟩
theorem id97 : IdOK (byts ⟨#[97]⟩) := ⟨by decide, by decide, by decide⟩
set_option maxRecDepth 100000 in
set_option maxHeartbeats 4000000 in
theorem pbegun_ok (w : World) :
    Calls Try.prog 37 #[] w fun e w' => e = .returned (.bool true) ∧ Below w.heap.size w w' := by
  have HA := Lib.hid (padd_ok none 0 0 [] (fun _ => True) ⟨#[97]⟩ 2 5 7 w (PRow.nil _ _ _) ⟨by simp, by simp, by simp⟩ id97 (by omega) (by omega) (by omega) rfl (by simp))
  have HE := Lib.hid samePeer_ok
  have qa := alloc_cells
  have qf := alloc_frozens
  go_enter Try.func37, Try.ntmps37
  go_wp2_with fail
  refine HA.out.mono ?_
  rintro e w1 ⟨A1, c1, rfl, T1, hb1⟩
  obtain ⟨b, off, rfl, lb, _, hp⟩ := T1.row.at (k := 0) (by omega)
  obtain ⟨k0, k1, k2, k3, k4, k6, C, cc, k5, hin, _⟩ := hp
  rw [show off + 0 * 7 = off by omega] at k0 k1 k2 k3 k4 k5 k6
  have HIn := Lib.hid (show Row w1 C 1 [5] from hin.1)
  have r5 : Row (w1.alloc (.cells #[.int .i64 5] 3)) (some ⟨w1.heap.size, 0, none⟩) 1 [5] := Row.lit w1 3 [5] 1 rfl
  have HR5 := Lib.hid r5
  simp [addS, newP] at k0 k1 k2 k3 k4 k5 k6
  clear T1 hin r5
  go_wp2_with fail
  refine (HE.out _ _ _ _ _ _ _ _ _ _ _ [5] _ (HIn.out.below (by repeat (first | (with_reducible exact Below.refl _ _) | ((with_reducible refine Below.alloc ?_ ?_ _); rotate_left; (next => ((try dsimp only); (try simp only [World.size_alloc, World.size_setCell, World.size_drew]); omega))) | ((with_reducible refine Below.setCell ?_ ?_ _); rotate_left; (next => ((try dsimp only); (try simp only [World.size_alloc, World.size_setCell, World.size_drew]); omega))) | (with_reducible refine Below.drew ?_) | (refine Below.trans ?_ (by assumption))))) HR5.out (by omega)).mono ?_
  rintro e w2 ⟨rfl, hb2⟩
  have z2 := hb2.size
  have c2 := Below.cells hb2
  have f2 := Below.frozens hb2
  try simp only [World.size_alloc, World.size_setCell, World.size_drew] at z2 c2 f2
  go_wp2_with fail
  go_ret
  exact ⟨rfl, (by repeat (first | (with_reducible exact Below.refl _ _) | ((with_reducible refine Below.alloc ?_ ?_ _); rotate_left; (next => ((try dsimp only); (try simp only [World.size_alloc, World.size_setCell, World.size_drew]); omega))) | ((with_reducible refine Below.setCell ?_ ?_ _); rotate_left; (next => ((try dsimp only); (try simp only [World.size_alloc, World.size_setCell, World.size_drew]); omega))) | (with_reducible refine Below.drew ?_) | ((with_reducible refine Below.trans ?_ (Below.mono hb2 ?_)); rotate_left; (next => ((try dsimp only); (try simp only [World.size_alloc, World.size_setCell, World.size_drew]); omega))) | ((with_reducible refine Below.trans ?_ (Below.mono hb1 ?_)); rotate_left; (next => ((try dsimp only); (try simp only [World.size_alloc, World.size_setCell, World.size_drew]); omega)))))⟩
end Go.Proofs.Ytpomdnglknbanaa

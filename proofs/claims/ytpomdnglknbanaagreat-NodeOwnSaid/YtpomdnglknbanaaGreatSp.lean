
/-
  The reference's SameWin, SamePeer, SamePeers at what reads alike; peersBegun.
-/
import Derived.Test.YtpomdnglknbanaaGreatMh
import Derived.Test.YtpomdnglknbanaaGreatSw
set_option linter.unusedSimpArgs false
set_option linter.unusedVariables false
namespace Go.Proofs.YtpomdnglknbanaaGreat
open Go.RowKit

set_option maxRecDepth 100000 in
set_option maxHeartbeats 4000000 in
theorem samePeer_ok (s : ByteArray) (a b d z x : Int) (A B : Option Addr) (n c c' : Nat) (l : List Int) (w : World) (ha : Row w A n l) (hb : Row w B n l) (hm : n ≤ 1000000000000000000) :
    Calls Tryz.prog 52 #[.agg #[.string s, .int .i64 a, .int .i64 b, .int .i64 d, .int .i64 z, .slice A n c, .int .i64 x], .agg #[.string s, .int .i64 a, .int .i64 b, .int .i64 d, .int .i64 z, .slice B n c', .int .i64 x]] w fun e w' => e = .returned (.bool true) ∧ Below w.heap.size w w' := by
  have HA := Lib.hid ha
  have HB := Lib.hid hb
  have HE := Lib.hid (fun w' ha hb => sameWin_ok z A B n c c' l w' ha hb hm)
  clear ha hb
  have qa := alloc_cells
  have qf := alloc_frozens
  go_enter Tryz.func52, Tryz.ntmps52
  go_wp2_with fail
  refine (HE.out _ (HA.out.below (by repeat (first | (with_reducible exact Below.refl _ _) | ((with_reducible refine Below.alloc ?_ ?_ _); rotate_left; (next => ((try dsimp only); (try simp only [World.size_alloc, World.size_setCell, World.size_drew]); omega))) | ((with_reducible refine Below.setCell ?_ ?_ _); rotate_left; (next => ((try dsimp only); (try simp only [World.size_alloc, World.size_setCell, World.size_drew]); omega))) | (with_reducible refine Below.drew ?_) | (refine Below.trans ?_ (by assumption))))) (HB.out.below (by repeat (first | (with_reducible exact Below.refl _ _) | ((with_reducible refine Below.alloc ?_ ?_ _); rotate_left; (next => ((try dsimp only); (try simp only [World.size_alloc, World.size_setCell, World.size_drew]); omega))) | ((with_reducible refine Below.setCell ?_ ?_ _); rotate_left; (next => ((try dsimp only); (try simp only [World.size_alloc, World.size_setCell, World.size_drew]); omega))) | (with_reducible refine Below.drew ?_) | (refine Below.trans ?_ (by assumption)))))).mono ?_
  rintro e w1 ⟨rfl, hb1⟩
  have z1 := hb1.size
  have c1 := Below.cells hb1
  have f1 := Below.frozens hb1
  try simp only [World.size_alloc, World.size_setCell, World.size_drew] at z1 c1 f1
  go_wp2_with fail
  go_ret
  exact ⟨rfl, (by repeat (first | (with_reducible exact Below.refl _ _) | ((with_reducible refine Below.alloc ?_ ?_ _); rotate_left; (next => ((try dsimp only); (try simp only [World.size_alloc, World.size_setCell, World.size_drew]); omega))) | ((with_reducible refine Below.setCell ?_ ?_ _); rotate_left; (next => ((try dsimp only); (try simp only [World.size_alloc, World.size_setCell, World.size_drew]); omega))) | (with_reducible refine Below.drew ?_) | ((with_reducible refine Below.trans ?_ (Below.mono hb1 ?_)); rotate_left; (next => ((try dsimp only); (try simp only [World.size_alloc, World.size_setCell, World.size_drew]); omega)))))⟩
set_option maxRecDepth 100000 in
set_option maxHeartbeats 8000000 in
theorem samePeers_fn (A B : Option Addr) (n c c' : Nat) (L : List Peer) (f g : Nat → Prop) (w : World) (ha : PRow w A n L f) (hb : PRow w B n L g) (hm : n ≤ 1000000000000000000) (hv : ∀ k, k < n → (L.getD k default).vals.length ≤ 1000000000000000000) :
    Calls Tryz.prog 51 #[.slice A n c, .slice B n c', .func (.func 52) #[] #[]] w fun e w' => e = .returned (.bool true) ∧ Below w.heap.size w w' := by
  have HA := Lib.hid ha
  have HB := Lib.hid hb
  have HV := Lib.hid hv
  have HE := Lib.hid samePeer_ok
  clear ha hb hv
  have qa := alloc_cells
  have qf := alloc_frozens
  go_enter Tryz.func51, Tryz.ntmps51
  go_wp2_with fail
  go_loopw [17] (fun i wr => ∃ k : Nat, k ≤ n ∧ i = .int .i64 k ∧ Below w.heap.size w wr) (fun i _ => n - (intOf i).toNat)
  case atStart => exact ⟨0, Nat.zero_le _, rfl, (by repeat (first | (with_reducible exact Below.refl _ _) | ((with_reducible refine Below.alloc ?_ ?_ _); rotate_left; (next => ((try dsimp only); (try simp only [World.size_alloc, World.size_setCell, World.size_drew]); omega))) | ((with_reducible refine Below.setCell ?_ ?_ _); rotate_left; (next => ((try dsimp only); (try simp only [World.size_alloc, World.size_setCell, World.size_drew]); omega))) | (with_reducible refine Below.drew ?_) | (refine Below.trans ?_ (by assumption))))⟩
  case round =>
    obtain ⟨k, hk, rfl, bel⟩ := hrel
    have sz0 := bel.size
    by_cases hlt : k < n
    · obtain ⟨b, off, rfl, lb, _, hp⟩ := (HA.out.below bel).at hlt
      obtain ⟨b', off', rfl, lb', _, hp'⟩ := (HB.out.below bel).at hlt
      have hvl := HV.out k hlt
      obtain ⟨p, hpk⟩ : ∃ p, L.getD k default = p := ⟨_, rfl⟩
      rw [hpk] at hp hp' hvl
      obtain ⟨k0, k1, k2, k3, k4, k6, C, cc, k5, hin, _⟩ := hp
      obtain ⟨j0, j1, j2, j3, j4, j6, D, cd, j5, hin', _⟩ := hp'
      have HIn := Lib.hid hin.1
      have HIn' := Lib.hid hin'.1
      have B0 := Lib.hid bel
      clear bel hin hin' hpk
      go_wp2_with fail
      refine (HE.out _ _ _ _ _ _ _ _ _ _ _ p.vals _ (HIn.out.below (by repeat (first | (with_reducible exact Below.refl _ _) | ((with_reducible refine Below.alloc ?_ ?_ _); rotate_left; (next => ((try dsimp only); (try simp only [World.size_alloc, World.size_setCell, World.size_drew]); omega))) | ((with_reducible refine Below.setCell ?_ ?_ _); rotate_left; (next => ((try dsimp only); (try simp only [World.size_alloc, World.size_setCell, World.size_drew]); omega))) | (with_reducible refine Below.drew ?_) | (refine Below.trans ?_ (by assumption))))) (HIn'.out.below (by repeat (first | (with_reducible exact Below.refl _ _) | ((with_reducible refine Below.alloc ?_ ?_ _); rotate_left; (next => ((try dsimp only); (try simp only [World.size_alloc, World.size_setCell, World.size_drew]); omega))) | ((with_reducible refine Below.setCell ?_ ?_ _); rotate_left; (next => ((try dsimp only); (try simp only [World.size_alloc, World.size_setCell, World.size_drew]); omega))) | (with_reducible refine Below.drew ?_) | (refine Below.trans ?_ (by assumption))))) (by omega)).mono ?_
      rintro e w1 ⟨rfl, hb1⟩
      have z1 := hb1.size
      have c1 := Below.cells hb1
      have f1 := Below.frozens hb1
      try simp only [World.size_alloc, World.size_setCell, World.size_drew] at z1 c1 f1
      go_wp2_with fail
      go_roundw
      case rel => exact ⟨k + 1, by omega, by go_num, B0.out.trans (Below.mono (by repeat (first | (with_reducible exact Below.refl _ _) | ((with_reducible refine Below.alloc ?_ ?_ _); rotate_left; (next => ((try dsimp only); (try simp only [World.size_alloc, World.size_setCell, World.size_drew]); omega))) | ((with_reducible refine Below.setCell ?_ ?_ _); rotate_left; (next => ((try dsimp only); (try simp only [World.size_alloc, World.size_setCell, World.size_drew]); omega))) | (with_reducible refine Below.drew ?_) | ((with_reducible refine Below.trans ?_ (Below.mono hb1 ?_)); rotate_left; (next => ((try dsimp only); (try simp only [World.size_alloc, World.size_setCell, World.size_drew]); omega))))) sz0)⟩
      case measure => simp [intOf]; omega
    · obtain rfl : n = k := by omega
      go_wp2_with fail
      go_ret
      exact ⟨rfl, bel⟩
set_option maxHeartbeats 4000000 in
theorem samePeers_ok (A B : Option Addr) (n c c' : Nat) (L : List Peer) (f g : Nat → Prop) (w : World) (ha : PRow w A n L f) (hb : PRow w B n L g) (hm : n ≤ 1000000000000000000) (hv : ∀ k, k < n → (L.getD k default).vals.length ≤ 1000000000000000000) :
    Calls Tryz.prog 27 #[.slice A n c, .slice B n c'] w fun e w' => e = .returned (.bool true) ∧ Below w.heap.size w w' := by
  have HE := Lib.hid (samePeers_fn A B n c c' L f g w ha hb hm hv)
  clear ha hb hv
  go_enter Tryz.func27, Tryz.ntmps27
  go_wp2_with fail
  refine (HE.out).mono ?_
  rintro e w1 ⟨rfl, hb1⟩
  have z1 := hb1.size
  have c1 := Below.cells hb1
  have f1 := Below.frozens hb1
  try simp only [World.size_alloc, World.size_setCell, World.size_drew] at z1 c1 f1
  go_wp2_with fail
  go_ret
  exact ⟨rfl, hb1⟩
theorem id97 : IdOK (byts ⟨#[97]⟩) := ⟨by decide, by decide, by decide⟩
end Go.Proofs.YtpomdnglknbanaaGreat

/-
  peers.Check: 0 at a table that may be, something else at any other.
-/
import Derived.Test.YtpomdnglknbanaaPe
import Derived.BigQuiet
set_option linter.unusedSimpArgs false
set_option linter.unusedVariables false
namespace Go.Proofs.Ytpomdnglknbanaa
open Go.RowKit

set_option maxRecDepth 100000 in
set_option maxHeartbeats 8000000 in
theorem pcheck_ok (A : Option Addr) (n c : Nat) (L : List Peer) (f : Nat → Prop) (w : World) (hr : PRow w A n L f) (h : TabOK L) :
    Calls Try.prog 41 #[.slice A n c] w fun e w' => e = .returned (.int .i64 0) ∧ Below w.heap.size w w' := by
  have HR := Lib.hid hr
  have hl := hr.1
  have h6 := h.len
  have n6 : ¬ (6 : Int) < n := by omega
  have HG := Lib.hid (tab_good h)
  have HI := Lib.hid (fun s w' h => id_ok s w' h)
  have HC := Lib.hid (fun i s d w' h => gcheck_ok i s d h w')
  have HW := Lib.hid (fun z A n c l w' a b c' d => wcheck_ok z A n c l w' a b c' d)
  clear hr h h6
  have qa := alloc_cells
  have qf := alloc_frozens
  go_enter Try.func41, Try.ntmps41
  go_wp2_with fail
  go_loopw [12] (fun i wr => ∃ k : Nat, k ≤ n ∧ i = .int .i64 k ∧ Below w.heap.size w wr) (fun i _ => n - (intOf i).toNat)
  case atStart => exact ⟨0, Nat.zero_le _, rfl, (by repeat (first | (with_reducible exact Below.refl _ _) | ((with_reducible refine Below.alloc ?_ ?_ _); rotate_left; (next => ((try dsimp only); (try simp only [World.size_alloc, World.size_setCell, World.size_drew]); omega))) | ((with_reducible refine Below.setCell ?_ ?_ _); rotate_left; (next => ((try dsimp only); (try simp only [World.size_alloc, World.size_setCell, World.size_drew]); omega))) | (with_reducible refine Below.drew ?_) | (refine Below.trans ?_ (by assumption))))⟩
  case round =>
    obtain ⟨k, hk, rfl, bel⟩ := hrel
    by_cases hlt : k < n
    · obtain ⟨b, off, rfl, lb, _, hp⟩ := (HR.out.below bel).at hlt
      obtain ⟨ok, hord⟩ := HG.out k (by omega)
      obtain ⟨p, hpk⟩ : ∃ p, L.getD k default = p := ⟨_, rfl⟩
      rw [hpk] at hp ok hord
      obtain ⟨k0, k1, k2, k3, k4, k6, B, cc, k5, hin, _⟩ := hp
      have HId := Lib.hid (fun w' => HI.out _ w' ok.id)
      have HGt := Lib.hid (fun w' => HC.out _ _ _ w' ok.gate)
      have HWn := Lib.hid (fun w' h => HW.out p.cap B p.vals.length cc p.vals w' h ⟨ok.win.1, ok.win.2.1⟩ ok.win.2.2.1 ok.win.2.2.2)
      obtain ⟨l1, l2⟩ := ok.last
      have l3 : ¬ p.last < 0 := by omega
      have l4 : ¬ 1073741824 < p.last := by omega
      have HIn := Lib.hid hin.1
      have B0 := Lib.hid bel
      have sz0 := bel.size
      by_cases k00 : 0 < k
      · obtain ⟨j, hj⟩ : ∃ j, k = j + 1 := ⟨k - 1, by omega⟩
        have hkj : IntKind.i64.wrap ((k : Int) - 1) = (j : Int) := by rw [IntWalk.i64_in _ (by omega)]; omega
        have hjn : j < n := by omega
        obtain ⟨b', off', e', _, _, hq⟩ := (HR.out.below bel).at hjn
        obtain ⟨rfl, rfl⟩ : b = b' ∧ off = off' := by simp at e'; exact e'
        obtain ⟨q0, _⟩ := hq
        have hs := hord k00
        rw [show k - 1 = j by omega] at hs
        obtain ⟨q, hqk⟩ : ∃ p, L.getD j default = p := ⟨_, rfl⟩
        rw [hqk] at hs q0
        unfold sl at hs
        have k0i : decide ((0 : Int) < k) = true := by simp; omega
        clear bel hin ok hord hpk hqk e' hj
        go_wp2_with fail
        refine (HId.out _).mono ?_
        rintro e w' ⟨rfl, rfl⟩
        go_wp2_with fail
        refine (HGt.out _).mono ?_
        rintro e w1 ⟨rfl, hb1⟩
        have z1 := hb1.size
        have c1 := Below.cells hb1
        have f1 := Below.frozens hb1
        try simp only [World.size_alloc, World.size_setCell, World.size_drew] at z1 c1 f1
        go_wp2_with fail
        refine (HWn.out _ (HIn.out.below (by repeat (first | (with_reducible exact Below.refl _ _) | ((with_reducible refine Below.alloc ?_ ?_ _); rotate_left; (next => ((try dsimp only); (try simp only [World.size_alloc, World.size_setCell, World.size_drew]); omega))) | ((with_reducible refine Below.setCell ?_ ?_ _); rotate_left; (next => ((try dsimp only); (try simp only [World.size_alloc, World.size_setCell, World.size_drew]); omega))) | (with_reducible refine Below.drew ?_) | ((with_reducible refine Below.trans ?_ (Below.mono hb1 ?_)); rotate_left; (next => ((try dsimp only); (try simp only [World.size_alloc, World.size_setCell, World.size_drew]); omega))))))).mono ?_
        rintro e w2 ⟨rfl, hb2⟩
        have z2 := hb2.size
        have c2 := Below.cells hb2
        have f2 := Below.frozens hb2
        try simp only [World.size_alloc, World.size_setCell, World.size_drew] at z2 c2 f2
        go_wp2_with fail
        refine wp_region_quiet_all (Ext _) (by kernel_rfl) (by kernel_rfl) (Ext.drawn _) ?_
        repeat (first | go_big_quiet_skip | go_big_quiet_step (fail) | (refine BigFrame.wpQuiet_want rfl (fun K hK => ?_); apply Exists.intro; refine ⟨fun w2 h2 => ?_, ?_⟩; (next => (have g1 := Below.cells h2.below; have g2 := Below.frozens h2.below; (try simp only [World.size_alloc, World.size_setCell] at g1 g2); first | (go_simp; fail) | (simp [go_sem, ↓IntWalk.iteOmega, *]; done) | (simp [go_sem, ↓IntWalk.iteOmega, *]; rfl)))); (go_simp; refine hK _ ?_; clear hK K))
        refine wpQuiet_nil ?_
        intro w3 h3
        have hb3 := h3.below
        clear h3
        have z3 := hb3.size
        have c3 := Below.cells hb3
        have f3 := Below.frozens hb3
        try simp only [World.size_alloc, World.size_setCell, World.size_drew] at z3 c3 f3
        go_wp2_with fail
        go_roundw
        case rel => exact ⟨k + 1, by omega, by go_num, B0.out.trans (Below.mono (by repeat (first | (with_reducible exact Below.refl _ _) | ((with_reducible refine Below.alloc ?_ ?_ _); rotate_left; (next => ((try dsimp only); (try simp only [World.size_alloc, World.size_setCell, World.size_drew]); omega))) | ((with_reducible refine Below.setCell ?_ ?_ _); rotate_left; (next => ((try dsimp only); (try simp only [World.size_alloc, World.size_setCell, World.size_drew]); omega))) | (with_reducible refine Below.drew ?_) | ((with_reducible refine Below.trans ?_ (Below.mono hb3 ?_)); rotate_left; (next => ((try dsimp only); (try simp only [World.size_alloc, World.size_setCell, World.size_drew]); omega))) | ((with_reducible refine Below.trans ?_ (Below.mono hb2 ?_)); rotate_left; (next => ((try dsimp only); (try simp only [World.size_alloc, World.size_setCell, World.size_drew]); omega))) | ((with_reducible refine Below.trans ?_ (Below.mono hb1 ?_)); rotate_left; (next => ((try dsimp only); (try simp only [World.size_alloc, World.size_setCell, World.size_drew]); omega))))) sz0)⟩
        case measure => simp [intOf]; omega
      · have k0i : decide ((0 : Int) < k) = false := by simp; omega
        clear bel hin ok hord hpk
        go_wp2_with fail
        refine (HId.out _).mono ?_
        rintro e w' ⟨rfl, rfl⟩
        go_wp2_with fail
        refine (HGt.out _).mono ?_
        rintro e w1 ⟨rfl, hb1⟩
        have z1 := hb1.size
        have c1 := Below.cells hb1
        have f1 := Below.frozens hb1
        try simp only [World.size_alloc, World.size_setCell, World.size_drew] at z1 c1 f1
        go_wp2_with fail
        refine (HWn.out _ (HIn.out.below (by repeat (first | (with_reducible exact Below.refl _ _) | ((with_reducible refine Below.alloc ?_ ?_ _); rotate_left; (next => ((try dsimp only); (try simp only [World.size_alloc, World.size_setCell, World.size_drew]); omega))) | ((with_reducible refine Below.setCell ?_ ?_ _); rotate_left; (next => ((try dsimp only); (try simp only [World.size_alloc, World.size_setCell, World.size_drew]); omega))) | (with_reducible refine Below.drew ?_) | ((with_reducible refine Below.trans ?_ (Below.mono hb1 ?_)); rotate_left; (next => ((try dsimp only); (try simp only [World.size_alloc, World.size_setCell, World.size_drew]); omega))))))).mono ?_
        rintro e w2 ⟨rfl, hb2⟩
        have z2 := hb2.size
        have c2 := Below.cells hb2
        have f2 := Below.frozens hb2
        try simp only [World.size_alloc, World.size_setCell, World.size_drew] at z2 c2 f2
        go_wp2_with fail
        refine wp_region_quiet_all (Ext _) (by kernel_rfl) (by kernel_rfl) (Ext.drawn _) ?_
        repeat (first | go_big_quiet_skip | go_big_quiet_step (fail) | (refine BigFrame.wpQuiet_want rfl (fun K hK => ?_); apply Exists.intro; refine ⟨fun w2 h2 => ?_, ?_⟩; (next => (have g1 := Below.cells h2.below; have g2 := Below.frozens h2.below; (try simp only [World.size_alloc, World.size_setCell] at g1 g2); first | (go_simp; fail) | (simp [go_sem, ↓IntWalk.iteOmega, *]; done) | (simp [go_sem, ↓IntWalk.iteOmega, *]; rfl)))); (go_simp; refine hK _ ?_; clear hK K))
        refine wpQuiet_nil ?_
        intro w3 h3
        have hb3 := h3.below
        clear h3
        have z3 := hb3.size
        have c3 := Below.cells hb3
        have f3 := Below.frozens hb3
        try simp only [World.size_alloc, World.size_setCell, World.size_drew] at z3 c3 f3
        go_wp2_with fail
        go_roundw
        case rel => exact ⟨k + 1, by omega, by go_num, B0.out.trans (Below.mono (by repeat (first | (with_reducible exact Below.refl _ _) | ((with_reducible refine Below.alloc ?_ ?_ _); rotate_left; (next => ((try dsimp only); (try simp only [World.size_alloc, World.size_setCell, World.size_drew]); omega))) | ((with_reducible refine Below.setCell ?_ ?_ _); rotate_left; (next => ((try dsimp only); (try simp only [World.size_alloc, World.size_setCell, World.size_drew]); omega))) | (with_reducible refine Below.drew ?_) | ((with_reducible refine Below.trans ?_ (Below.mono hb3 ?_)); rotate_left; (next => ((try dsimp only); (try simp only [World.size_alloc, World.size_setCell, World.size_drew]); omega))) | ((with_reducible refine Below.trans ?_ (Below.mono hb2 ?_)); rotate_left; (next => ((try dsimp only); (try simp only [World.size_alloc, World.size_setCell, World.size_drew]); omega))) | ((with_reducible refine Below.trans ?_ (Below.mono hb1 ?_)); rotate_left; (next => ((try dsimp only); (try simp only [World.size_alloc, World.size_setCell, World.size_drew]); omega))))) sz0)⟩
        case measure => simp [intOf]; omega
    · obtain rfl : n = k := by omega
      go_wp2_with fail
      go_ret
      exact ⟨rfl, bel⟩

set_option maxRecDepth 100000 in
set_option maxHeartbeats 16000000 in
theorem pcheck_bad (A : Option Addr) (n c : Nat) (L : List Peer) (f : Nat → Prop) (w : World) (hr : PRow w A n L f) (hn : n ≤ 9223372036854775807) (hz : ∀ k, k < n → (L.getD k default).id.size ≤ 9223372036854775807) (h : ¬ TabOK L) :
    Calls Try.prog 41 #[.slice A n c] w fun e w' => (∃ k : Int, (k != 0) = true ∧ e = .returned (.int .i64 k)) ∧ Below w.heap.size w w' := by
  have hl := hr.1
  by_cases h6 : n ≤ 6
  · have HR := Lib.hid hr
    have n6 : ¬ (6 : Int) < n := by omega
    have HG := Lib.hid (fun h' => h (good_tab (by omega) h'))
    have HZ := Lib.hid hz
    have HI := Lib.hid (fun s w' h => id_ok s w' h)
    have HC := Lib.hid (fun i s d w' h => gcheck_ok i s d h w')
    have HW := Lib.hid (fun z A n c l w' a b c' d => wcheck_ok z A n c l w' a b c' d)
    have HIb := Lib.hid (fun s w' hm h => id_bad s w' hm h)
    have HCb := Lib.hid (fun i s d w' h => gcheck_bad i s d h w')
    have HWb := Lib.hid (fun z A n c l w' a b h => wcheck_bad z A n c l w' a b h)
    clear hr h hz
    have qa := alloc_cells
    have qf := alloc_frozens
    go_enter Try.func41, Try.ntmps41
    go_wp2_with fail
    go_loopw [12] (fun i wr => ∃ k : Nat, k ≤ n ∧ i = .int .i64 k ∧ Good L k ∧ Below w.heap.size w wr) (fun i _ => n - (intOf i).toNat)
    case atStart => exact ⟨0, Nat.zero_le _, rfl, fun j hj => absurd hj (by omega), (by repeat (first | (with_reducible exact Below.refl _ _) | ((with_reducible refine Below.alloc ?_ ?_ _); rotate_left; (next => ((try dsimp only); (try simp only [World.size_alloc, World.size_setCell, World.size_drew]); omega))) | ((with_reducible refine Below.setCell ?_ ?_ _); rotate_left; (next => ((try dsimp only); (try simp only [World.size_alloc, World.size_setCell, World.size_drew]); omega))) | (with_reducible refine Below.drew ?_) | (refine Below.trans ?_ (by assumption))))⟩
    case round =>
      obtain ⟨k, hk, rfl, hgood, bel⟩ := hrel
      by_cases hlt : k < n
      · obtain ⟨b, off, rfl, lb, _, hp⟩ := (HR.out.below bel).at hlt
        obtain ⟨p, hpk⟩ : ∃ p, L.getD k default = p := ⟨_, rfl⟩
        have hpz := HZ.out k hlt
        rw [hpk] at hp hpz
        obtain ⟨k0, k1, k2, k3, k4, k6, B, cc, k5, hin, _⟩ := hp
        have HIn := Lib.hid hin.1
        have hvl : p.vals.length ≤ 9223372036854775807 := by have := hin.2.1; have := hin.2.2.1; unfold maxLen at this; omega
        have B0 := Lib.hid bel
        have HGo := Lib.hid hgood
        have HPk := Lib.hid hpk
        have sz0 := bel.size
        clear bel hin hgood hpk
        by_cases ci : IdOK (byts p.id)
        · have HId := Lib.hid (fun w' => HI.out _ w' ci)
          have HCi := Lib.hid ci
          clear ci
          by_cases cg : GateOK p.inc p.seq p.drops
          · have HGt := Lib.hid (fun w' => HC.out _ _ _ w' cg)
            have HCg := Lib.hid cg
            clear cg
            by_cases cw : WinOK p.cap p.vals
            · have HWn := Lib.hid (fun w' h => HW.out p.cap B p.vals.length cc p.vals w' h ⟨cw.1, cw.2.1⟩ cw.2.2.1 cw.2.2.2)
              have HCw := Lib.hid cw
              clear cw
              by_cases l1 : p.last < 0
              · go_wp2_with fail
                refine (HId.out _).mono ?_
                rintro e w' ⟨rfl, rfl⟩
                go_wp2_with fail
                refine (HGt.out _).mono ?_
                rintro e w1 ⟨rfl, hb1⟩
                have z1 := hb1.size
                have c1 := Below.cells hb1
                have f1 := Below.frozens hb1
                try simp only [World.size_alloc, World.size_setCell, World.size_drew] at z1 c1 f1
                go_wp2_with fail
                refine (HWn.out _ (HIn.out.below (by repeat (first | (with_reducible exact Below.refl _ _) | ((with_reducible refine Below.alloc ?_ ?_ _); rotate_left; (next => ((try dsimp only); (try simp only [World.size_alloc, World.size_setCell, World.size_drew]); omega))) | ((with_reducible refine Below.setCell ?_ ?_ _); rotate_left; (next => ((try dsimp only); (try simp only [World.size_alloc, World.size_setCell, World.size_drew]); omega))) | (with_reducible refine Below.drew ?_) | ((with_reducible refine Below.trans ?_ (Below.mono hb1 ?_)); rotate_left; (next => ((try dsimp only); (try simp only [World.size_alloc, World.size_setCell, World.size_drew]); omega))))))).mono ?_
                rintro e w2 ⟨rfl, hb2⟩
                have z2 := hb2.size
                have c2 := Below.cells hb2
                have f2 := Below.frozens hb2
                try simp only [World.size_alloc, World.size_setCell, World.size_drew] at z2 c2 f2
                go_wp2_with fail
                go_ret
                exact ⟨⟨1, by decide, rfl⟩, B0.out.trans (Below.mono (by repeat (first | (with_reducible exact Below.refl _ _) | ((with_reducible refine Below.alloc ?_ ?_ _); rotate_left; (next => ((try dsimp only); (try simp only [World.size_alloc, World.size_setCell, World.size_drew]); omega))) | ((with_reducible refine Below.setCell ?_ ?_ _); rotate_left; (next => ((try dsimp only); (try simp only [World.size_alloc, World.size_setCell, World.size_drew]); omega))) | (with_reducible refine Below.drew ?_) | ((with_reducible refine Below.trans ?_ (Below.mono hb2 ?_)); rotate_left; (next => ((try dsimp only); (try simp only [World.size_alloc, World.size_setCell, World.size_drew]); omega))) | ((with_reducible refine Below.trans ?_ (Below.mono hb1 ?_)); rotate_left; (next => ((try dsimp only); (try simp only [World.size_alloc, World.size_setCell, World.size_drew]); omega))))) sz0)⟩
              · by_cases l2 : 1073741824 < p.last
                · go_wp2_with fail
                  refine (HId.out _).mono ?_
                  rintro e w' ⟨rfl, rfl⟩
                  go_wp2_with fail
                  refine (HGt.out _).mono ?_
                  rintro e w1 ⟨rfl, hb1⟩
                  have z1 := hb1.size
                  have c1 := Below.cells hb1
                  have f1 := Below.frozens hb1
                  try simp only [World.size_alloc, World.size_setCell, World.size_drew] at z1 c1 f1
                  go_wp2_with fail
                  refine (HWn.out _ (HIn.out.below (by repeat (first | (with_reducible exact Below.refl _ _) | ((with_reducible refine Below.alloc ?_ ?_ _); rotate_left; (next => ((try dsimp only); (try simp only [World.size_alloc, World.size_setCell, World.size_drew]); omega))) | ((with_reducible refine Below.setCell ?_ ?_ _); rotate_left; (next => ((try dsimp only); (try simp only [World.size_alloc, World.size_setCell, World.size_drew]); omega))) | (with_reducible refine Below.drew ?_) | ((with_reducible refine Below.trans ?_ (Below.mono hb1 ?_)); rotate_left; (next => ((try dsimp only); (try simp only [World.size_alloc, World.size_setCell, World.size_drew]); omega))))))).mono ?_
                  rintro e w2 ⟨rfl, hb2⟩
                  have z2 := hb2.size
                  have c2 := Below.cells hb2
                  have f2 := Below.frozens hb2
                  try simp only [World.size_alloc, World.size_setCell, World.size_drew] at z2 c2 f2
                  go_wp2_with fail
                  go_ret
                  exact ⟨⟨1, by decide, rfl⟩, B0.out.trans (Below.mono (by repeat (first | (with_reducible exact Below.refl _ _) | ((with_reducible refine Below.alloc ?_ ?_ _); rotate_left; (next => ((try dsimp only); (try simp only [World.size_alloc, World.size_setCell, World.size_drew]); omega))) | ((with_reducible refine Below.setCell ?_ ?_ _); rotate_left; (next => ((try dsimp only); (try simp only [World.size_alloc, World.size_setCell, World.size_drew]); omega))) | (with_reducible refine Below.drew ?_) | ((with_reducible refine Below.trans ?_ (Below.mono hb2 ?_)); rotate_left; (next => ((try dsimp only); (try simp only [World.size_alloc, World.size_setCell, World.size_drew]); omega))) | ((with_reducible refine Below.trans ?_ (Below.mono hb1 ?_)); rotate_left; (next => ((try dsimp only); (try simp only [World.size_alloc, World.size_setCell, World.size_drew]); omega))))) sz0)⟩
                · have HOk := Lib.hid (show PeerOK p from ⟨HCi.out, HCg.out, HCw.out, by omega, by omega⟩)
                  by_cases k00 : 0 < k
                  · obtain ⟨j, hj⟩ : ∃ j, k = j + 1 := ⟨k - 1, by omega⟩
                    have hkj : IntKind.i64.wrap ((k : Int) - 1) = (j : Int) := by rw [IntWalk.i64_in _ (by omega)]; omega
                    have hjn : j < n := by omega
                    obtain ⟨b', off', e', _, _, hq⟩ := (HR.out.below B0.out).at hjn
                    obtain ⟨rfl, rfl⟩ : b = b' ∧ off = off' := by simp at e'; exact e'
                    obtain ⟨q0, _⟩ := hq
                    obtain ⟨q, hqk⟩ : ∃ p, L.getD j default = p := ⟨_, rfl⟩
                    rw [hqk] at q0
                    have k0i : decide ((0 : Int) < k) = true := by simp; omega
                    by_cases co : sl q.id p.id = true
                    · have HNx := Lib.hid (show Good L (k + 1) from fun i hi => by
                        rcases Nat.lt_or_ge i k with c | c
                        · exact HGo.out i c
                        · obtain rfl : i = k := by omega
                          refine ⟨by rw [HPk.out]; exact HOk.out, fun _ => ?_⟩
                          rw [show i - 1 = j by omega, hqk, HPk.out]; exact co)
                      have hs : Op.bytesLess q.id.toList p.id.toList = true := co
                      clear co hqk e' hj
                      go_wp2_with fail
                      refine (HId.out _).mono ?_
                      rintro e w' ⟨rfl, rfl⟩
                      go_wp2_with fail
                      refine (HGt.out _).mono ?_
                      rintro e w1 ⟨rfl, hb1⟩
                      have z1 := hb1.size
                      have c1 := Below.cells hb1
                      have f1 := Below.frozens hb1
                      try simp only [World.size_alloc, World.size_setCell, World.size_drew] at z1 c1 f1
                      go_wp2_with fail
                      refine (HWn.out _ (HIn.out.below (by repeat (first | (with_reducible exact Below.refl _ _) | ((with_reducible refine Below.alloc ?_ ?_ _); rotate_left; (next => ((try dsimp only); (try simp only [World.size_alloc, World.size_setCell, World.size_drew]); omega))) | ((with_reducible refine Below.setCell ?_ ?_ _); rotate_left; (next => ((try dsimp only); (try simp only [World.size_alloc, World.size_setCell, World.size_drew]); omega))) | (with_reducible refine Below.drew ?_) | ((with_reducible refine Below.trans ?_ (Below.mono hb1 ?_)); rotate_left; (next => ((try dsimp only); (try simp only [World.size_alloc, World.size_setCell, World.size_drew]); omega))))))).mono ?_
                      rintro e w2 ⟨rfl, hb2⟩
                      have z2 := hb2.size
                      have c2 := Below.cells hb2
                      have f2 := Below.frozens hb2
                      try simp only [World.size_alloc, World.size_setCell, World.size_drew] at z2 c2 f2
                      go_wp2_with fail
                      refine wp_region_quiet_all (Ext _) (by kernel_rfl) (by kernel_rfl) (Ext.drawn _) ?_
                      repeat (first | go_big_quiet_skip | go_big_quiet_step (fail) | (refine BigFrame.wpQuiet_want rfl (fun K hK => ?_); apply Exists.intro; refine ⟨fun w2 h2 => ?_, ?_⟩; (next => (have g1 := Below.cells h2.below; have g2 := Below.frozens h2.below; (try simp only [World.size_alloc, World.size_setCell] at g1 g2); first | (go_simp; fail) | (simp [go_sem, ↓IntWalk.iteOmega, *]; done) | (simp [go_sem, ↓IntWalk.iteOmega, *]; rfl)))); (go_simp; refine hK _ ?_; clear hK K))
                      refine wpQuiet_nil ?_
                      intro w3 h3
                      have hb3 := h3.below
                      clear h3
                      have z3 := hb3.size
                      have c3 := Below.cells hb3
                      have f3 := Below.frozens hb3
                      try simp only [World.size_alloc, World.size_setCell, World.size_drew] at z3 c3 f3
                      go_wp2_with fail
                      go_roundw
                      case rel => exact ⟨k + 1, by omega, by go_num, HNx.out, B0.out.trans (Below.mono (by repeat (first | (with_reducible exact Below.refl _ _) | ((with_reducible refine Below.alloc ?_ ?_ _); rotate_left; (next => ((try dsimp only); (try simp only [World.size_alloc, World.size_setCell, World.size_drew]); omega))) | ((with_reducible refine Below.setCell ?_ ?_ _); rotate_left; (next => ((try dsimp only); (try simp only [World.size_alloc, World.size_setCell, World.size_drew]); omega))) | (with_reducible refine Below.drew ?_) | ((with_reducible refine Below.trans ?_ (Below.mono hb3 ?_)); rotate_left; (next => ((try dsimp only); (try simp only [World.size_alloc, World.size_setCell, World.size_drew]); omega))) | ((with_reducible refine Below.trans ?_ (Below.mono hb2 ?_)); rotate_left; (next => ((try dsimp only); (try simp only [World.size_alloc, World.size_setCell, World.size_drew]); omega))) | ((with_reducible refine Below.trans ?_ (Below.mono hb1 ?_)); rotate_left; (next => ((try dsimp only); (try simp only [World.size_alloc, World.size_setCell, World.size_drew]); omega))))) sz0)⟩
                      case measure => simp [intOf]; omega
                    · have hs : Op.bytesLess q.id.toList p.id.toList = false := by simpa [sl] using co
                      clear co hqk e' hj
                      go_wp2_with fail
                      refine (HId.out _).mono ?_
                      rintro e w' ⟨rfl, rfl⟩
                      go_wp2_with fail
                      refine (HGt.out _).mono ?_
                      rintro e w1 ⟨rfl, hb1⟩
                      have z1 := hb1.size
                      have c1 := Below.cells hb1
                      have f1 := Below.frozens hb1
                      try simp only [World.size_alloc, World.size_setCell, World.size_drew] at z1 c1 f1
                      go_wp2_with fail
                      refine (HWn.out _ (HIn.out.below (by repeat (first | (with_reducible exact Below.refl _ _) | ((with_reducible refine Below.alloc ?_ ?_ _); rotate_left; (next => ((try dsimp only); (try simp only [World.size_alloc, World.size_setCell, World.size_drew]); omega))) | ((with_reducible refine Below.setCell ?_ ?_ _); rotate_left; (next => ((try dsimp only); (try simp only [World.size_alloc, World.size_setCell, World.size_drew]); omega))) | (with_reducible refine Below.drew ?_) | ((with_reducible refine Below.trans ?_ (Below.mono hb1 ?_)); rotate_left; (next => ((try dsimp only); (try simp only [World.size_alloc, World.size_setCell, World.size_drew]); omega))))))).mono ?_
                      rintro e w2 ⟨rfl, hb2⟩
                      have z2 := hb2.size
                      have c2 := Below.cells hb2
                      have f2 := Below.frozens hb2
                      try simp only [World.size_alloc, World.size_setCell, World.size_drew] at z2 c2 f2
                      go_wp2_with fail
                      refine wp_region_quiet_all (Ext _) (by kernel_rfl) (by kernel_rfl) (Ext.drawn _) ?_
                      repeat (first | go_big_quiet_skip | go_big_quiet_step (fail) | (refine BigFrame.wpQuiet_want rfl (fun K hK => ?_); apply Exists.intro; refine ⟨fun w2 h2 => ?_, ?_⟩; (next => (have g1 := Below.cells h2.below; have g2 := Below.frozens h2.below; (try simp only [World.size_alloc, World.size_setCell] at g1 g2); first | (go_simp; fail) | (simp [go_sem, ↓IntWalk.iteOmega, *]; done) | (simp [go_sem, ↓IntWalk.iteOmega, *]; rfl)))); (go_simp; refine hK _ ?_; clear hK K))
                      refine wpQuiet_nil ?_
                      intro w3 h3
                      have hb3 := h3.below
                      clear h3
                      have z3 := hb3.size
                      have c3 := Below.cells hb3
                      have f3 := Below.frozens hb3
                      try simp only [World.size_alloc, World.size_setCell, World.size_drew] at z3 c3 f3
                      go_wp2_with fail
                      go_ret
                      exact ⟨⟨3, by decide, rfl⟩, B0.out.trans (Below.mono (by repeat (first | (with_reducible exact Below.refl _ _) | ((with_reducible refine Below.alloc ?_ ?_ _); rotate_left; (next => ((try dsimp only); (try simp only [World.size_alloc, World.size_setCell, World.size_drew]); omega))) | ((with_reducible refine Below.setCell ?_ ?_ _); rotate_left; (next => ((try dsimp only); (try simp only [World.size_alloc, World.size_setCell, World.size_drew]); omega))) | (with_reducible refine Below.drew ?_) | ((with_reducible refine Below.trans ?_ (Below.mono hb3 ?_)); rotate_left; (next => ((try dsimp only); (try simp only [World.size_alloc, World.size_setCell, World.size_drew]); omega))) | ((with_reducible refine Below.trans ?_ (Below.mono hb2 ?_)); rotate_left; (next => ((try dsimp only); (try simp only [World.size_alloc, World.size_setCell, World.size_drew]); omega))) | ((with_reducible refine Below.trans ?_ (Below.mono hb1 ?_)); rotate_left; (next => ((try dsimp only); (try simp only [World.size_alloc, World.size_setCell, World.size_drew]); omega))))) sz0)⟩
                  · have k0i : decide ((0 : Int) < k) = false := by simp; omega
                    have HNx := Lib.hid (show Good L (k + 1) from fun i hi => by
                      rcases Nat.lt_or_ge i k with c | c
                      · exact HGo.out i c
                      · obtain rfl : i = k := by omega
                        exact ⟨by rw [HPk.out]; exact HOk.out, fun h => absurd h (by omega)⟩)
                    go_wp2_with fail
                    refine (HId.out _).mono ?_
                    rintro e w' ⟨rfl, rfl⟩
                    go_wp2_with fail
                    refine (HGt.out _).mono ?_
                    rintro e w1 ⟨rfl, hb1⟩
                    have z1 := hb1.size
                    have c1 := Below.cells hb1
                    have f1 := Below.frozens hb1
                    try simp only [World.size_alloc, World.size_setCell, World.size_drew] at z1 c1 f1
                    go_wp2_with fail
                    refine (HWn.out _ (HIn.out.below (by repeat (first | (with_reducible exact Below.refl _ _) | ((with_reducible refine Below.alloc ?_ ?_ _); rotate_left; (next => ((try dsimp only); (try simp only [World.size_alloc, World.size_setCell, World.size_drew]); omega))) | ((with_reducible refine Below.setCell ?_ ?_ _); rotate_left; (next => ((try dsimp only); (try simp only [World.size_alloc, World.size_setCell, World.size_drew]); omega))) | (with_reducible refine Below.drew ?_) | ((with_reducible refine Below.trans ?_ (Below.mono hb1 ?_)); rotate_left; (next => ((try dsimp only); (try simp only [World.size_alloc, World.size_setCell, World.size_drew]); omega))))))).mono ?_
                    rintro e w2 ⟨rfl, hb2⟩
                    have z2 := hb2.size
                    have c2 := Below.cells hb2
                    have f2 := Below.frozens hb2
                    try simp only [World.size_alloc, World.size_setCell, World.size_drew] at z2 c2 f2
                    go_wp2_with fail
                    refine wp_region_quiet_all (Ext _) (by kernel_rfl) (by kernel_rfl) (Ext.drawn _) ?_
                    repeat (first | go_big_quiet_skip | go_big_quiet_step (fail) | (refine BigFrame.wpQuiet_want rfl (fun K hK => ?_); apply Exists.intro; refine ⟨fun w2 h2 => ?_, ?_⟩; (next => (have g1 := Below.cells h2.below; have g2 := Below.frozens h2.below; (try simp only [World.size_alloc, World.size_setCell] at g1 g2); first | (go_simp; fail) | (simp [go_sem, ↓IntWalk.iteOmega, *]; done) | (simp [go_sem, ↓IntWalk.iteOmega, *]; rfl)))); (go_simp; refine hK _ ?_; clear hK K))
                    refine wpQuiet_nil ?_
                    intro w3 h3
                    have hb3 := h3.below
                    clear h3
                    have z3 := hb3.size
                    have c3 := Below.cells hb3
                    have f3 := Below.frozens hb3
                    try simp only [World.size_alloc, World.size_setCell, World.size_drew] at z3 c3 f3
                    go_wp2_with fail
                    go_roundw
                    case rel => exact ⟨k + 1, by omega, by go_num, HNx.out, B0.out.trans (Below.mono (by repeat (first | (with_reducible exact Below.refl _ _) | ((with_reducible refine Below.alloc ?_ ?_ _); rotate_left; (next => ((try dsimp only); (try simp only [World.size_alloc, World.size_setCell, World.size_drew]); omega))) | ((with_reducible refine Below.setCell ?_ ?_ _); rotate_left; (next => ((try dsimp only); (try simp only [World.size_alloc, World.size_setCell, World.size_drew]); omega))) | (with_reducible refine Below.drew ?_) | ((with_reducible refine Below.trans ?_ (Below.mono hb3 ?_)); rotate_left; (next => ((try dsimp only); (try simp only [World.size_alloc, World.size_setCell, World.size_drew]); omega))) | ((with_reducible refine Below.trans ?_ (Below.mono hb2 ?_)); rotate_left; (next => ((try dsimp only); (try simp only [World.size_alloc, World.size_setCell, World.size_drew]); omega))) | ((with_reducible refine Below.trans ?_ (Below.mono hb1 ?_)); rotate_left; (next => ((try dsimp only); (try simp only [World.size_alloc, World.size_setCell, World.size_drew]); omega))))) sz0)⟩
                    case measure => simp [intOf]; omega
            · have HWn := Lib.hid (fun w' h => HWb.out p.cap B p.vals.length cc p.vals w' h hvl cw)
              clear cw
              go_wp2_with fail
              refine (HId.out _).mono ?_
              rintro e w' ⟨rfl, rfl⟩
              go_wp2_with fail
              refine (HGt.out _).mono ?_
              rintro e w1 ⟨rfl, hb1⟩
              have z1 := hb1.size
              have c1 := Below.cells hb1
              have f1 := Below.frozens hb1
              try simp only [World.size_alloc, World.size_setCell, World.size_drew] at z1 c1 f1
              go_wp2_with fail
              refine (HWn.out _ (HIn.out.below (by repeat (first | (with_reducible exact Below.refl _ _) | ((with_reducible refine Below.alloc ?_ ?_ _); rotate_left; (next => ((try dsimp only); (try simp only [World.size_alloc, World.size_setCell, World.size_drew]); omega))) | ((with_reducible refine Below.setCell ?_ ?_ _); rotate_left; (next => ((try dsimp only); (try simp only [World.size_alloc, World.size_setCell, World.size_drew]); omega))) | (with_reducible refine Below.drew ?_) | ((with_reducible refine Below.trans ?_ (Below.mono hb1 ?_)); rotate_left; (next => ((try dsimp only); (try simp only [World.size_alloc, World.size_setCell, World.size_drew]); omega))))))).mono ?_
              rintro e w2 ⟨⟨kk, hkk, rfl⟩, hb2⟩
              have z2 := hb2.size
              try simp only [World.size_alloc, World.size_setCell, World.size_drew] at z2
              go_wp2_with fail
              go_ret
              exact ⟨⟨kk, hkk, rfl⟩, B0.out.trans (Below.mono (by repeat (first | (with_reducible exact Below.refl _ _) | ((with_reducible refine Below.alloc ?_ ?_ _); rotate_left; (next => ((try dsimp only); (try simp only [World.size_alloc, World.size_setCell, World.size_drew]); omega))) | ((with_reducible refine Below.setCell ?_ ?_ _); rotate_left; (next => ((try dsimp only); (try simp only [World.size_alloc, World.size_setCell, World.size_drew]); omega))) | (with_reducible refine Below.drew ?_) | ((with_reducible refine Below.trans ?_ (Below.mono hb2 ?_)); rotate_left; (next => ((try dsimp only); (try simp only [World.size_alloc, World.size_setCell, World.size_drew]); omega))) | ((with_reducible refine Below.trans ?_ (Below.mono hb1 ?_)); rotate_left; (next => ((try dsimp only); (try simp only [World.size_alloc, World.size_setCell, World.size_drew]); omega))))) sz0)⟩
          · have HGt := Lib.hid (fun w' => HCb.out _ _ _ w' cg)
            clear cg
            go_wp2_with fail
            refine (HId.out _).mono ?_
            rintro e w' ⟨rfl, rfl⟩
            go_wp2_with fail
            refine (HGt.out _).mono ?_
            rintro e w1 ⟨rfl, hb1⟩
            have z1 := hb1.size
            have c1 := Below.cells hb1
            have f1 := Below.frozens hb1
            try simp only [World.size_alloc, World.size_setCell, World.size_drew] at z1 c1 f1
            go_wp2_with fail
            go_ret
            exact ⟨⟨1, by decide, rfl⟩, B0.out.trans (Below.mono (by repeat (first | (with_reducible exact Below.refl _ _) | ((with_reducible refine Below.alloc ?_ ?_ _); rotate_left; (next => ((try dsimp only); (try simp only [World.size_alloc, World.size_setCell, World.size_drew]); omega))) | ((with_reducible refine Below.setCell ?_ ?_ _); rotate_left; (next => ((try dsimp only); (try simp only [World.size_alloc, World.size_setCell, World.size_drew]); omega))) | (with_reducible refine Below.drew ?_) | ((with_reducible refine Below.trans ?_ (Below.mono hb1 ?_)); rotate_left; (next => ((try dsimp only); (try simp only [World.size_alloc, World.size_setCell, World.size_drew]); omega))))) sz0)⟩
        · have HId := Lib.hid (fun w' => HIb.out _ w' hpz ci)
          clear ci
          go_wp2_with fail
          refine (HId.out _).mono ?_
          rintro e w' ⟨rfl, rfl⟩
          go_wp2_with fail
          go_ret
          exact ⟨⟨3, by decide, rfl⟩, B0.out.trans (Below.mono (by repeat (first | (with_reducible exact Below.refl _ _) | ((with_reducible refine Below.alloc ?_ ?_ _); rotate_left; (next => ((try dsimp only); (try simp only [World.size_alloc, World.size_setCell, World.size_drew]); omega))) | ((with_reducible refine Below.setCell ?_ ?_ _); rotate_left; (next => ((try dsimp only); (try simp only [World.size_alloc, World.size_setCell, World.size_drew]); omega))) | (with_reducible refine Below.drew ?_) | (refine Below.trans ?_ (by assumption)))) sz0)⟩
      · obtain rfl : n = k := by omega
        rw [← hl] at hgood
        exact absurd hgood HG.out
  · have n6 : (6 : Int) < n := by omega
    clear hr h hz
    have qa := alloc_cells
    have qf := alloc_frozens
    go_enter Try.func41, Try.ntmps41
    go_wp2_with fail
    go_ret
    exact ⟨⟨2, by decide, rfl⟩, (by repeat (first | (with_reducible exact Below.refl _ _) | ((with_reducible refine Below.alloc ?_ ?_ _); rotate_left; (next => ((try dsimp only); (try simp only [World.size_alloc, World.size_setCell, World.size_drew]); omega))) | ((with_reducible refine Below.setCell ?_ ?_ _); rotate_left; (next => ((try dsimp only); (try simp only [World.size_alloc, World.size_setCell, World.size_drew]); omega))) | (with_reducible refine Below.drew ?_) | (refine Below.trans ?_ (by assumption))))⟩
end Go.Proofs.Ytpomdnglknbanaa

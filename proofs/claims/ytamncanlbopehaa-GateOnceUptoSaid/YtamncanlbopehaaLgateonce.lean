import Derived.Test.YtamncanlbopehaaRr
import Derived.Test.YtamncanlbopehaaGate
import Derived.Test.YtamncanlbopehaaFl
set_option linter.unusedSimpArgs false
set_option linter.unusedVariables false
namespace Go.Proofs.Ytamncanlbopehaa
open Go.RowKit
theorem same_below {P : Program} {f : FuncId} {args : Array Value} {w : World} {v : Value} (h : Calls P f args w fun e w' => e = .returned v ∧ w = w') : Calls P f args w fun e w' => e = .returned v ∧ Below w.heap.size w w' :=
  h.mono fun _ _ ⟨he, hw⟩ => ⟨he, hw ▸ Below.refl _ _⟩
set_option maxRecDepth 100000 in
set_option maxHeartbeats 16000000 in
theorem gateOnce_walk (a : Option Addr) (n cap : Nat) (Z : List (List Int)) (w : World) (hr : IsRows w a n Z) (hn : n ≤ 1048576) :
    Calls Try.prog 3 #[.slice a n cap] w fun e w' =>
      e = .returned (.bool true) ∧ Below w.heap.size w w' := by
  have HR := Lib.hid hr.2
  clear hr
  have qa := alloc_cells
  have qf := alloc_frozens
  go_enter Try.func3, Try.ntmps3
  go_wp2_with fail
  refine (take_new 0 0 0 0 1 (by unfold GateOK; omega) (by omega) (by omega) (by omega) (by omega) (by omega) _).mono ?_
  rintro e w1 ⟨rfl, hb1⟩
  have z1 := hb1.size
  have c1 := Below.cells hb1
  have f1 := Below.frozens hb1
  try simp only [World.size_alloc, World.size_setCell, World.size_drew] at z1 c1 f1
  go_wp2_with fail
  obtain ⟨g, hg⟩ : ∃ g, w1.heap.size = g := ⟨_, rfl⟩
  have hgw : w.heap.size ≤ g := by omega
  have h0 : (w1.alloc (.cells #[.int .i64 0, .int .i64 0, .int .i64 0] 24)).heap.size = g + 1 := by simp [hg]
  have k0 : (w1.alloc (.cells #[.int .i64 0, .int .i64 0, .int .i64 0] 24)).cell? ⟨g, 0, none⟩ = some (.int .i64 0) := by simp [qa, hg]
  have k1 : (w1.alloc (.cells #[.int .i64 0, .int .i64 0, .int .i64 0] 24)).cell? ⟨g, 1, none⟩ = some (.int .i64 0) := by simp [qa, hg]
  have k2 : (w1.alloc (.cells #[.int .i64 0, .int .i64 0, .int .i64 0] 24)).cell? ⟨g, 2, none⟩ = some (.int .i64 0) := by simp [qa, hg]
  have k3 : ∀ o, (w1.alloc (.cells #[.int .i64 0, .int .i64 0, .int .i64 0] 24)).frozen? ⟨g, o, none⟩ = false := fun o => by simp [qf, hg]
  have kb : Below w.heap.size w (w1.alloc (.cells #[.int .i64 0, .int .i64 0, .int .i64 0] 24)) := (by repeat (first | (with_reducible exact Below.refl _ _) | ((with_reducible refine Below.alloc ?_ ?_ _); rotate_left; (next => ((try dsimp only); (try simp only [World.size_alloc, World.size_setCell, World.size_drew]); omega))) | ((with_reducible refine Below.setCell ?_ ?_ _); rotate_left; (next => ((try dsimp only); (try simp only [World.size_alloc, World.size_setCell, World.size_drew]); omega))) | (with_reducible refine Below.drew ?_) | ((with_reducible refine Below.trans ?_ (Below.mono hb1 ?_)); rotate_left; (next => ((try dsimp only); (try simp only [World.size_alloc, World.size_setCell, World.size_drew]); omega)))))
  obtain ⟨W, hW⟩ : ∃ W, w1.alloc (.cells #[.int .i64 0, .int .i64 0, .int .i64 0] 24) = W := ⟨_, rfl⟩
  rw [hW] at h0 k0 k1 k2 k3 kb ⊢
  rw [hg]
  clear hW hg c1 f1 z1 hb1 w1
  go_loopw [6, 7, 8, 38] (fun i s d kk wr => ∃ (I S D : Int) (k : Nat), k ≤ n ∧ kk = .int .i64 k ∧ i = .int .i64 I ∧ s = .int .i64 S ∧ d = .int .i64 D ∧ GateOK I S D ∧ D ≤ k ∧ g < wr.heap.size ∧ wr.cell? ⟨g, 0, none⟩ = some (.int .i64 I) ∧ wr.cell? ⟨g, 1, none⟩ = some (.int .i64 S) ∧ wr.cell? ⟨g, 2, none⟩ = some (.int .i64 D) ∧ (∀ o, wr.frozen? ⟨g, o, none⟩ = false) ∧ Below w.heap.size w wr) (fun _ _ _ kk _ => n - (intOf kk).toNat)
  case atStart => exact ⟨0, 0, 0, 0, Nat.zero_le _, rfl, rfl, rfl, rfl, by unfold GateOK; omega, by omega, by omega, k0, k1, k2, k3, kb⟩
  case round =>
    clear k0 k1 k2 k3 kb h0
    obtain ⟨I, S, D, k, hk, rfl, rfl, rfl, rfl, hok, hD, hg, k0, k1, k2, k3, bel⟩ := hrel
    have hsz := bel.size
    by_cases hlt : k < n
    · obtain ⟨b, off, A, C, rfl, hb, hcell, hin⟩ := HR.out k hlt
      obtain ⟨L, hL⟩ : ∃ L, Z.getD k [] = L := ⟨_, rfl⟩
      rw [hL] at hcell hin
      have hcell := (bel.cell (p := ⟨b, off + k, none⟩) hb).trans hcell
      have hLm : L.length ≤ 9223372036854775807 := by have := hin.2.1; have := hin.2.2.1; unfold maxLen at *; omega
      by_cases h2 : L.length < 2
      · have h2' : (L.length : Int) < 2 := by omega
        clear hin hL
        go_wp2_with fail
        go_roundw
        case rel => exact ⟨I, S, D, k + 1, by omega, by go_num, rfl, rfl, rfl, hok, by omega, hg, k0, k1, k2, k3, bel⟩
        case measure => simp [intOf]; omega
      · have h2' : ¬ (L.length : Int) < 2 := by omega
        have hl0 : (0 : Int) < L.length := by omega
        have hl1 : (1 : Int) < L.length := by omega
        have hl2 : 0 < L.length := by omega
        have hl3 : 1 < L.length := by omega
        obtain ⟨b2, o2, rfl, hb2, hc2⟩ := hin.1.at (by omega)
        obtain ⟨X, hX⟩ : ∃ x, L.getD 0 0 = x := ⟨_, rfl⟩
        obtain ⟨Y, hY⟩ : ∃ x, L.getD 1 0 = x := ⟨_, rfl⟩
        have c0 := (bel.cell (p := ⟨b2, o2 + 0, none⟩) hb2).trans (hc2 0 (by omega))
        have c1 := (bel.cell (p := ⟨b2, o2 + 1, none⟩) hb2).trans (hc2 1 (by omega))
        rw [hX, Nat.add_zero] at c0
        rw [hY] at c1
        have b0 := within_bd X (n := 4) (by omega)
        have b1 := within_bd Y (n := 6) (by omega)
        obtain ⟨J, e_J⟩ : ∃ z_, within X 4 = z_ := ⟨_, rfl⟩
        rw [e_J] at b0
        have HJ := Lib.hid e_J
        clear e_J
        obtain ⟨T0, e_T0⟩ : ∃ z_, within Y 6 = z_ := ⟨_, rfl⟩
        rw [e_T0] at b1
        have HT0 := Lib.hid e_T0
        clear e_T0
        obtain ⟨T, hT⟩ : ∃ T, 1 + T0 = T := ⟨_, rfl⟩
        have hTw : IntKind.i64.wrap (1 + T0) = T := by rw [← hT]; exact IntWalk.i64_in _ (by omega)
        have t0 : 1 ≤ T ∧ T ≤ 6 := by omega
        have HTT := Lib.hid hT
        clear hT hin hL hX hY hc2
        have D0 : 0 ≤ D := hok.2.2.2.2.1
        have D1 : D ≤ 1048576 := by omega
        have hw1 : IntKind.i64.wrap (D + 1) = D + 1 := IntWalk.i64_in _ (by omega)
        have hw2 : IntKind.i64.wrap (D + 1 + 1) = D + 1 + 1 := IntWalk.i64_in _ (by omega)
        have hcase : I < J ∨ (J = I ∧ S < T) ∨ J < I ∨ (J = I ∧ T ≤ S) := by omega
        rcases hcase with q | ⟨rfl, q⟩ | q | ⟨rfl, q⟩
        · have q1 : ¬ J < I := by omega
          go_wp2_with fail
          refine wp_region_quiet_all (Ext _) (by kernel_rfl) (by kernel_rfl) (Ext.drawn _) ?_
          repeat (first | go_big_quiet_skip | go_big_quiet_step (fail) | (refine BigFrame.wpQuiet_want rfl (fun K hK => ?_); apply Exists.intro; refine ⟨fun w2 h2 => ?_, ?_⟩; (next => (have g1 := Below.cells h2.below; have g2 := Below.frozens h2.below; (try simp only [World.size_alloc, World.size_setCell] at g1 g2); first | (go_simp; (first | (go_at_call 19; first | (with_reducible exact h2.calls (same_below (within_any X 4 J _ (by omega) (by omega) HJ.out))) | (with_reducible exact h2.calls (same_below (within_any Y 6 T0 _ (by omega) (by omega) HT0.out)))))) | (simp [go_sem, ↓IntWalk.iteOmega, *]; done) | (simp [go_sem, ↓IntWalk.iteOmega, *]; rfl)))); (go_simp; refine hK _ ?_; clear hK K))
          refine wpQuiet_nil ?_
          intro w2 h2
          have hb2 := h2.below
          clear h2
          have z2 := hb2.size
          have c2 := Below.cells hb2
          have f2 := Below.frozens hb2
          try simp only [World.size_alloc, World.size_setCell, World.size_drew] at z2 c2 f2
          go_wp2_with fail
          refine (take_new I S D J T hok (by omega) (by omega) (by omega) (by omega) (by omega) _).mono ?_
          rintro e w3 ⟨rfl, hb3⟩
          have z3 := hb3.size
          have c3 := Below.cells hb3
          have f3 := Below.frozens hb3
          try simp only [World.size_alloc, World.size_setCell, World.size_drew] at z3 c3 f3
          go_wp2_with fail
          have hok2 : GateOK J T D := by unfold GateOK at hok ⊢; omega
          refine (take_old J T D J T (D + 1) hok2 (by omega) (by omega) (by omega) (by omega) (by omega) (by rw [if_neg (by omega)]) _).mono ?_
          rintro e w4 ⟨rfl, hb4⟩
          have z4 := hb4.size
          have c4 := Below.cells hb4
          have f4 := Below.frozens hb4
          try simp only [World.size_alloc, World.size_setCell, World.size_drew] at z4 c4 f4
          go_wp2_with fail
          go_roundw
          case rel =>
            refine ⟨J, T, D, k + 1, by omega, by go_num, rfl, rfl, rfl, hok2, by omega, ?_, ?_, ?_, ?_, ?_, ?_⟩
            · simp only [World.size_alloc, World.size_setCell]; omega
            · simp [go_sem, ↓IntWalk.iteOmega, *]
            · simp [go_sem, ↓IntWalk.iteOmega, *]
            · simp [go_sem, ↓IntWalk.iteOmega, *]
            · intro o; simp [go_sem, ↓IntWalk.iteOmega, *]
            · exact (by repeat (first | (with_reducible exact Below.refl _ _) | ((with_reducible refine Below.alloc ?_ ?_ _); rotate_left; (next => ((try dsimp only); (try simp only [World.size_alloc, World.size_setCell, World.size_drew]); omega))) | ((with_reducible refine Below.setCell ?_ ?_ _); rotate_left; (next => ((try dsimp only); (try simp only [World.size_alloc, World.size_setCell, World.size_drew]); omega))) | (with_reducible refine Below.drew ?_) | ((with_reducible refine Below.trans ?_ (Below.mono hb4 ?_)); rotate_left; (next => ((try dsimp only); (try simp only [World.size_alloc, World.size_setCell, World.size_drew]); omega))) | ((with_reducible refine Below.trans ?_ (Below.mono hb3 ?_)); rotate_left; (next => ((try dsimp only); (try simp only [World.size_alloc, World.size_setCell, World.size_drew]); omega))) | ((with_reducible refine Below.trans ?_ (Below.mono hb2 ?_)); rotate_left; (next => ((try dsimp only); (try simp only [World.size_alloc, World.size_setCell, World.size_drew]); omega))) | (with_reducible exact bel)))
          case measure => simp [intOf]; omega
        · have q1 : ¬ T ≤ S := by omega
          go_wp2_with fail
          refine wp_region_quiet_all (Ext _) (by kernel_rfl) (by kernel_rfl) (Ext.drawn _) ?_
          repeat (first | go_big_quiet_skip | go_big_quiet_step (fail) | (refine BigFrame.wpQuiet_want rfl (fun K hK => ?_); apply Exists.intro; refine ⟨fun w2 h2 => ?_, ?_⟩; (next => (have g1 := Below.cells h2.below; have g2 := Below.frozens h2.below; (try simp only [World.size_alloc, World.size_setCell] at g1 g2); first | (go_simp; (first | (go_at_call 19; first | (with_reducible exact h2.calls (same_below (within_any X 4 J _ (by omega) (by omega) HJ.out))) | (with_reducible exact h2.calls (same_below (within_any Y 6 T0 _ (by omega) (by omega) HT0.out)))))) | (simp [go_sem, ↓IntWalk.iteOmega, *]; done) | (simp [go_sem, ↓IntWalk.iteOmega, *]; rfl)))); (go_simp; refine hK _ ?_; clear hK K))
          refine wpQuiet_nil ?_
          intro w2 h2
          have hb2 := h2.below
          clear h2
          have z2 := hb2.size
          have c2 := Below.cells hb2
          have f2 := Below.frozens hb2
          try simp only [World.size_alloc, World.size_setCell, World.size_drew] at z2 c2 f2
          go_wp2_with fail
          refine (take_new J S D J T hok (by omega) (by omega) (by omega) (by omega) (by omega) _).mono ?_
          rintro e w3 ⟨rfl, hb3⟩
          have z3 := hb3.size
          have c3 := Below.cells hb3
          have f3 := Below.frozens hb3
          try simp only [World.size_alloc, World.size_setCell, World.size_drew] at z3 c3 f3
          go_wp2_with fail
          have hok2 : GateOK J T D := by unfold GateOK at hok ⊢; omega
          refine (take_old J T D J T (D + 1) hok2 (by omega) (by omega) (by omega) (by omega) (by omega) (by rw [if_neg (by omega)]) _).mono ?_
          rintro e w4 ⟨rfl, hb4⟩
          have z4 := hb4.size
          have c4 := Below.cells hb4
          have f4 := Below.frozens hb4
          try simp only [World.size_alloc, World.size_setCell, World.size_drew] at z4 c4 f4
          go_wp2_with fail
          go_roundw
          case rel =>
            refine ⟨J, T, D, k + 1, by omega, by go_num, rfl, rfl, rfl, hok2, by omega, ?_, ?_, ?_, ?_, ?_, ?_⟩
            · simp only [World.size_alloc, World.size_setCell]; omega
            · simp [go_sem, ↓IntWalk.iteOmega, *]
            · simp [go_sem, ↓IntWalk.iteOmega, *]
            · simp [go_sem, ↓IntWalk.iteOmega, *]
            · intro o; simp [go_sem, ↓IntWalk.iteOmega, *]
            · exact (by repeat (first | (with_reducible exact Below.refl _ _) | ((with_reducible refine Below.alloc ?_ ?_ _); rotate_left; (next => ((try dsimp only); (try simp only [World.size_alloc, World.size_setCell, World.size_drew]); omega))) | ((with_reducible refine Below.setCell ?_ ?_ _); rotate_left; (next => ((try dsimp only); (try simp only [World.size_alloc, World.size_setCell, World.size_drew]); omega))) | (with_reducible refine Below.drew ?_) | ((with_reducible refine Below.trans ?_ (Below.mono hb4 ?_)); rotate_left; (next => ((try dsimp only); (try simp only [World.size_alloc, World.size_setCell, World.size_drew]); omega))) | ((with_reducible refine Below.trans ?_ (Below.mono hb3 ?_)); rotate_left; (next => ((try dsimp only); (try simp only [World.size_alloc, World.size_setCell, World.size_drew]); omega))) | ((with_reducible refine Below.trans ?_ (Below.mono hb2 ?_)); rotate_left; (next => ((try dsimp only); (try simp only [World.size_alloc, World.size_setCell, World.size_drew]); omega))) | (with_reducible exact bel)))
          case measure => simp [intOf]; omega
        · have q1 : ¬ I < J := by omega
          have q2 : (J == I) = false := by simp; omega
          go_wp2_with fail
          refine wp_region_quiet_all (Ext _) (by kernel_rfl) (by kernel_rfl) (Ext.drawn _) ?_
          repeat (first | go_big_quiet_skip | go_big_quiet_step (fail) | (refine BigFrame.wpQuiet_want rfl (fun K hK => ?_); apply Exists.intro; refine ⟨fun w2 h2 => ?_, ?_⟩; (next => (have g1 := Below.cells h2.below; have g2 := Below.frozens h2.below; (try simp only [World.size_alloc, World.size_setCell] at g1 g2); first | (go_simp; (first | (go_at_call 19; first | (with_reducible exact h2.calls (same_below (within_any X 4 J _ (by omega) (by omega) HJ.out))) | (with_reducible exact h2.calls (same_below (within_any Y 6 T0 _ (by omega) (by omega) HT0.out)))))) | (simp [go_sem, ↓IntWalk.iteOmega, *]; done) | (simp [go_sem, ↓IntWalk.iteOmega, *]; rfl)))); (go_simp; refine hK _ ?_; clear hK K))
          refine wpQuiet_nil ?_
          intro w2 h2
          have hb2 := h2.below
          clear h2
          have z2 := hb2.size
          have c2 := Below.cells hb2
          have f2 := Below.frozens hb2
          try simp only [World.size_alloc, World.size_setCell, World.size_drew] at z2 c2 f2
          go_wp2_with fail
          refine (take_old I S D J T (D + 1) hok (by omega) (by omega) (by omega) (by omega) (by omega) (by rw [if_neg (by omega)]) _).mono ?_
          rintro e w3 ⟨rfl, hb3⟩
          have z3 := hb3.size
          have c3 := Below.cells hb3
          have f3 := Below.frozens hb3
          try simp only [World.size_alloc, World.size_setCell, World.size_drew] at z3 c3 f3
          go_wp2_with fail
          have hok2 : GateOK I S (D + 1) := by unfold GateOK at hok ⊢; omega
          refine (take_old I S (D + 1) J T (D + 1 + 1) hok2 (by omega) (by omega) (by omega) (by omega) (by omega) (by rw [if_neg (by omega)]) _).mono ?_
          rintro e w4 ⟨rfl, hb4⟩
          have z4 := hb4.size
          have c4 := Below.cells hb4
          have f4 := Below.frozens hb4
          try simp only [World.size_alloc, World.size_setCell, World.size_drew] at z4 c4 f4
          go_wp2_with fail
          go_roundw
          case rel =>
            refine ⟨I, S, D + 1, k + 1, by omega, by go_num, rfl, rfl, rfl, hok2, by omega, ?_, ?_, ?_, ?_, ?_, ?_⟩
            · simp only [World.size_alloc, World.size_setCell]; omega
            · simp [go_sem, ↓IntWalk.iteOmega, *]
            · simp [go_sem, ↓IntWalk.iteOmega, *]
            · simp [go_sem, ↓IntWalk.iteOmega, *]
            · intro o; simp [go_sem, ↓IntWalk.iteOmega, *]
            · exact (by repeat (first | (with_reducible exact Below.refl _ _) | ((with_reducible refine Below.alloc ?_ ?_ _); rotate_left; (next => ((try dsimp only); (try simp only [World.size_alloc, World.size_setCell, World.size_drew]); omega))) | ((with_reducible refine Below.setCell ?_ ?_ _); rotate_left; (next => ((try dsimp only); (try simp only [World.size_alloc, World.size_setCell, World.size_drew]); omega))) | (with_reducible refine Below.drew ?_) | ((with_reducible refine Below.trans ?_ (Below.mono hb4 ?_)); rotate_left; (next => ((try dsimp only); (try simp only [World.size_alloc, World.size_setCell, World.size_drew]); omega))) | ((with_reducible refine Below.trans ?_ (Below.mono hb3 ?_)); rotate_left; (next => ((try dsimp only); (try simp only [World.size_alloc, World.size_setCell, World.size_drew]); omega))) | ((with_reducible refine Below.trans ?_ (Below.mono hb2 ?_)); rotate_left; (next => ((try dsimp only); (try simp only [World.size_alloc, World.size_setCell, World.size_drew]); omega))) | (with_reducible exact bel)))
          case measure => simp [intOf]; omega
        · have q1 : ¬ S < T := by omega
          go_wp2_with fail
          refine wp_region_quiet_all (Ext _) (by kernel_rfl) (by kernel_rfl) (Ext.drawn _) ?_
          repeat (first | go_big_quiet_skip | go_big_quiet_step (fail) | (refine BigFrame.wpQuiet_want rfl (fun K hK => ?_); apply Exists.intro; refine ⟨fun w2 h2 => ?_, ?_⟩; (next => (have g1 := Below.cells h2.below; have g2 := Below.frozens h2.below; (try simp only [World.size_alloc, World.size_setCell] at g1 g2); first | (go_simp; (first | (go_at_call 19; first | (with_reducible exact h2.calls (same_below (within_any X 4 J _ (by omega) (by omega) HJ.out))) | (with_reducible exact h2.calls (same_below (within_any Y 6 T0 _ (by omega) (by omega) HT0.out)))))) | (simp [go_sem, ↓IntWalk.iteOmega, *]; done) | (simp [go_sem, ↓IntWalk.iteOmega, *]; rfl)))); (go_simp; refine hK _ ?_; clear hK K))
          refine wpQuiet_nil ?_
          intro w2 h2
          have hb2 := h2.below
          clear h2
          have z2 := hb2.size
          have c2 := Below.cells hb2
          have f2 := Below.frozens hb2
          try simp only [World.size_alloc, World.size_setCell, World.size_drew] at z2 c2 f2
          go_wp2_with fail
          refine (take_old J S D J T (D + 1) hok (by omega) (by omega) (by omega) (by omega) (by omega) (by rw [if_neg (by omega)]) _).mono ?_
          rintro e w3 ⟨rfl, hb3⟩
          have z3 := hb3.size
          have c3 := Below.cells hb3
          have f3 := Below.frozens hb3
          try simp only [World.size_alloc, World.size_setCell, World.size_drew] at z3 c3 f3
          go_wp2_with fail
          have hok2 : GateOK J S (D + 1) := by unfold GateOK at hok ⊢; omega
          refine (take_old J S (D + 1) J T (D + 1 + 1) hok2 (by omega) (by omega) (by omega) (by omega) (by omega) (by rw [if_neg (by omega)]) _).mono ?_
          rintro e w4 ⟨rfl, hb4⟩
          have z4 := hb4.size
          have c4 := Below.cells hb4
          have f4 := Below.frozens hb4
          try simp only [World.size_alloc, World.size_setCell, World.size_drew] at z4 c4 f4
          go_wp2_with fail
          go_roundw
          case rel =>
            refine ⟨J, S, D + 1, k + 1, by omega, by go_num, rfl, rfl, rfl, hok2, by omega, ?_, ?_, ?_, ?_, ?_, ?_⟩
            · simp only [World.size_alloc, World.size_setCell]; omega
            · simp [go_sem, ↓IntWalk.iteOmega, *]
            · simp [go_sem, ↓IntWalk.iteOmega, *]
            · simp [go_sem, ↓IntWalk.iteOmega, *]
            · intro o; simp [go_sem, ↓IntWalk.iteOmega, *]
            · exact (by repeat (first | (with_reducible exact Below.refl _ _) | ((with_reducible refine Below.alloc ?_ ?_ _); rotate_left; (next => ((try dsimp only); (try simp only [World.size_alloc, World.size_setCell, World.size_drew]); omega))) | ((with_reducible refine Below.setCell ?_ ?_ _); rotate_left; (next => ((try dsimp only); (try simp only [World.size_alloc, World.size_setCell, World.size_drew]); omega))) | (with_reducible refine Below.drew ?_) | ((with_reducible refine Below.trans ?_ (Below.mono hb4 ?_)); rotate_left; (next => ((try dsimp only); (try simp only [World.size_alloc, World.size_setCell, World.size_drew]); omega))) | ((with_reducible refine Below.trans ?_ (Below.mono hb3 ?_)); rotate_left; (next => ((try dsimp only); (try simp only [World.size_alloc, World.size_setCell, World.size_drew]); omega))) | ((with_reducible refine Below.trans ?_ (Below.mono hb2 ?_)); rotate_left; (next => ((try dsimp only); (try simp only [World.size_alloc, World.size_setCell, World.size_drew]); omega))) | (with_reducible exact bel)))
          case measure => simp [intOf]; omega
    · obtain rfl : n = k := by omega
      go_wp2_with fail
      go_ret
      exact ⟨rfl, bel⟩
end Go.Proofs.Ytamncanlbopehaa

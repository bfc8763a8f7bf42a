/-
  Rows of turns, whatever they are: hwkeep's roomy and marked, slices.Equal; marks.Of and At answer something.
  marks.Check, Of and At at any turns: they answer, and change nothing.
  Turns that came in, with the reach of their list.
  hwkeep's spoil at notes, subs and strings; slices.Equal at notes.
  All together.
  Two nodes and two towns beside each other.
-/
import Derived.Test.YtpomdnglknbanaaGreatVp
import Derived.Test.YtpomdnglknbanaaGreatMz
import Derived.Deep.DeepCutAuto
import Derived.Lib.SmallJoins
import Derived.Deep.Slices
import Derived.OpenShut
import Derived.SizedLaws
import Derived.Test.YtpomdnglknbanaaGreatVq
import Derived.Test.YtpomdnglknbanaaGreatKs
import Derived.Test.YtpomdnglknbanaaGreatKt
import Derived.Test.YtpomdnglknbanaaGreatTx
import Derived.Test.YtpomdnglknbanaaGreatSp
set_option linter.unusedSimpArgs false
set_option linter.unusedVariables false
namespace Go.Proofs.YtpomdnglknbanaaGreat
open Go Go.RowKit
structure Turn where
  time : Int
  sus : Bool
instance : Inhabited Turn := ⟨⟨0, false⟩⟩
def markU : List Value := [.int .i64 (-5), .bool false]
theorem info_turns : Tryz.prog.underlying 23 = some (.slice 27) := by kernel_rfl
def URow (w : World) (A : Option Addr) (n : Nat) (L : List Turn) : Prop :=
  L.length = n ∧ (0 < n → ∃ b off, A = some ⟨b, off, none⟩ ∧ b < w.heap.size ∧ ∀ k, k < n → w.cell? ⟨b, off + k * 2, none⟩ = some (.int .i64 (L.getD k default).time) ∧ w.cell? ⟨b, off + k * 2 + 1, none⟩ = some (.bool (L.getD k default).sus))
theorem URow.below {w w' : World} {A : Option Addr} {n : Nat} {L : List Turn} (h : URow w A n L) (hb : Below w.heap.size w w') : URow w' A n L :=
  ⟨h.1, fun hn => by
    obtain ⟨b, off, e, lt, hc⟩ := h.2 hn
    exact ⟨b, off, e, Nat.lt_of_lt_of_le lt hb.size, fun k hk => ⟨(hb.cell (p := ⟨b, off + k * 2, none⟩) lt).trans (hc k hk).1, (hb.cell (p := ⟨b, off + k * 2 + 1, none⟩) lt).trans (hc k hk).2⟩⟩⟩
theorem URow.at {w : World} {A : Option Addr} {n : Nat} {L : List Turn} (h : URow w A n L) {k : Nat} (hk : k < n) : ∃ b off, A = some ⟨b, off, none⟩ ∧ b < w.heap.size ∧ w.cell? ⟨b, off + k * 2, none⟩ = some (.int .i64 (L.getD k default).time) ∧ w.cell? ⟨b, off + k * 2 + 1, none⟩ = some (.bool (L.getD k default).sus) := by
  obtain ⟨b, off, hA, lb, hp⟩ := h.2 (by omega)
  exact ⟨b, off, hA, lb, hp k hk⟩
set_option maxRecDepth 100000 in
set_option maxHeartbeats 16000000 in
theorem roomyU_ok (A : Option Addr) (n c : Nat) (xs : List Value) (w : World) (hx : xs.length = n * 2) (hcl : ∀ ad, A = some ad → ∀ j u, xs[j]? = some u → ad.block < w.heap.size ∧ w.cell? (ad.add j) = some u) (h1 : ∀ u ∈ xs, u.oneCell' = true) (hnil : A = none → n = 0 ∧ c = 0) (hb : n * 16 ≤ 140737488351232) :
    Calls Tryz.prog 6 #[.slice A n c, .agg #[.int .i64 (-5), .bool false]] w fun e w' => ∃ g, e = .returned (.slice (some ⟨g, 0, none⟩) n (n + 3)) ∧ w'.ownsRow w.heap.size 27 2 (.slice (some ⟨g, 0, none⟩) n (n + 3)) n xs ∧ (∀ i, i < 3 → ∀ j, j < 2 → w'.cell? ⟨g, (n + i) * 2 + j, none⟩ = markU[j]?) ∧ Below w.heap.size w w' := by
  have n3 : IntKind.i64.wrap ((n : Int) + 3) = (n : Int) + 3 := IntWalk.i64_in _ (by omega)
  have C3 := Lib.hid (show (n : Int) + 3 = ((n + 3 : Nat) : Int) by omega)
  obtain ⟨i0, hi, hz0, hz1, hz2⟩ := info_parts info_turn
  have HCl := Lib.hid hcl
  have H1 := Lib.hid h1
  have HNil := Lib.hid hnil
  have HX := Lib.hid hx
  have qa := alloc_cells
  have qf := alloc_frozens
  clear hcl h1 hnil hx
  go_enter Tryz.func6, Tryz.ntmps6
  go_wp2_with (at_make; refine wpList_make_own _ rfl _ _ _ rfl w.heap.size 27 i0 _ 2 info_turns hi hz0 hz1 .i64 .i64 _ (n + 3) rfl rfl C3.out (by rw [hz2]; omega) (by unfold maxLen; omega) (by simp) ?_)
  intro w1 own1 gr1
  have b0 : Below w.heap.size w (w.alloc (.cells #[.int .i64 (-5), .bool false] 27)) := (Below.refl _ _).alloc (Nat.le_refl _) _
  have bc0 : ∀ i, (w.alloc (.cells #[.int .i64 (-5), .bool false] 27)).cell? ⟨w.heap.size, i, none⟩ = (#[.int .i64 (-5), .bool false] : Array Value)[i]? := fun i => World.cell?_alloc_new _ _ _ i
  have z0 : (w.alloc (.cells #[.int .i64 (-5), .bool false] 27)).heap.size = w.heap.size + 1 := by simp
  generalize w.alloc (.cells #[.int .i64 (-5), .bool false] 27) = w0 at b0 bc0 z0 own1 gr1 ⊢
  have z1 := gr1.size
  have b1 : Below w.heap.size w w1 := ⟨gr1.os.trans b0.os, gr1.tape.trans b0.tape, gr1.output.trans b0.output, by omega, fun x hx => (gr1.block x (by omega) (by simp)).trans (b0.block x hx)⟩
  have bc1 : ∀ i, w1.cell? ⟨w.heap.size, i, none⟩ = (#[.int .i64 (-5), .bool false] : Array Value)[i]? := fun i => (World.cell?_of_block (a := ⟨w.heap.size, i, none⟩) (gr1.block w.heap.size (by omega) (by simp))).trans (bc0 i)
  have HCl1 := Lib.hid (show ∀ ad, A = some ad → ∀ j u, xs[j]? = some u → w1.cell? (ad.add j) = some u from fun ad hA j u hu => (b1.cell (p := ad.add j) (by have h := (HCl.out ad hA j u hu).1; unfold Go.Addr.add; split <;> exact h)).trans (HCl.out ad hA j u hu).2)
  have O1 := Lib.hid own1
  have B1 := Lib.hid b1
  have BC1 := Lib.hid bc1
  obtain ⟨g, hg⟩ : ∃ g, w.heap.size + 1 = g := ⟨_, rfl⟩
  have hgl : w.heap.size + 1 < w1.heap.size := (own1.lt _ rfl).2
  have HG := Lib.hid (show g = w.heap.size + 1 ∧ g < w1.heap.size from ⟨by omega, by omega⟩)
  rw [hg] at O1 ⊢
  have Z1 := Lib.hid (show w.heap.size < w1.heap.size by omega)
  clear own1 gr1 b0 bc0 bc1 b1 z0 z1 hg hgl qa qf
  go_wp2_with (at_builtin; refine wpList_append_fits_any _ rfl _ _ 23 rfl w.heap.size 27 i0 2 info_turns hi hz1 g 0 (n + 3) [] rfl O1.out A n c xs rfl HX.out HNil.out HCl1.out H1.out (by omega) ?_)
  intro w2 own2 gr2
  have own3 : w2.ownsRow w.heap.size 27 2 (.slice (some ⟨g, 0, none⟩) n (n + 3)) n xs := by simpa using own2
  have b2 : Below w.heap.size w w2 := B1.out.grown gr2 (by have := Z1.out; omega) (fun j hj => by simp only [Option.some.injEq] at hj; have := HG.out.1; omega)
  have bc2 : ∀ i, w2.cell? ⟨w.heap.size, i, none⟩ = (#[.int .i64 (-5), .bool false] : Array Value)[i]? := fun i => (World.cell?_of_block (a := ⟨w.heap.size, i, none⟩) (gr2.block w.heap.size Z1.out (fun e => by simp only [Option.some.injEq] at e; have := HG.out.1; omega))).trans (BC1.out i)
  have O2 := Lib.hid own3
  have B2 := Lib.hid b2
  have BC2 := Lib.hid bc2
  have Z2 := Lib.hid (Nat.lt_of_lt_of_le Z1.out gr2.size)
  obtain ⟨bx, hbx⟩ : ∃ q, w.heap.size = q := ⟨_, rfl⟩
  have HBx := Lib.hid hbx
  rw [hbx] at BC2 Z2
  try rw [Nat.zero_add]
  rw [hbx]
  clear own2 own3 b2 bc2 gr2 hbx HCl1 O1 B1 BC1 Z1 HCl
  go_wp2_with fail
  go_loopw [13] (fun i wr => ∃ k : Nat, k ≤ 3 ∧ i = .int .i64 k ∧ wr.ownsRow w.heap.size 27 2 (.slice (some ⟨g, 0, none⟩) n (n + 3)) n xs ∧ (∀ i, i < k → ∀ j, j < 2 → wr.cell? ⟨g, (n + i) * 2 + j, none⟩ = markU[j]?) ∧ (∀ i, wr.cell? ⟨bx, i, none⟩ = (#[.int .i64 (-5), .bool false] : Array Value)[i]?) ∧ bx < wr.heap.size ∧ Below w.heap.size w wr) (fun i _ => 3 - (intOf i).toNat)
  case atStart => exact ⟨0, by omega, rfl, O2.out, fun i hi => absurd hi (by omega), BC2.out, Z2.out, B2.out⟩
  case round =>
    obtain ⟨wx, rfl⟩ : ∃ z : World, z = wr := ⟨_, rfl⟩
    clear O2 B2 BC2 Z2
    obtain ⟨k, hk, rfl, own, hx, hbc, hbl, bel⟩ := hrel
    have hwr := own_wrS own
    obtain ⟨g', hg', _, hgl, hcell, hfz⟩ := hwr.2 _ rfl
    have hgg : g = g' := by injection hg'
    subst hgg
    have O := Lib.hid own
    have X := Lib.hid hx
    have BC := Lib.hid hbc
    have HBe := Lib.hid bel
    by_cases hlt : k < 3
    · obtain ⟨m, hm⟩ : ∃ m, n + k = m := ⟨_, rfl⟩
      have HM := Lib.hid hm
      obtain ⟨u0, h0⟩ := hcell (m * 2) (by omega)
      obtain ⟨u1, h1⟩ := hcell (m * 2 + 1) (by omega)
      have x0 : wx.cell? ⟨bx, 0, none⟩ = some (.int .i64 (-5)) := hbc 0
      have x1 : wx.cell? ⟨bx, 1, none⟩ = some (.bool false) := hbc 1
      have kl : (k : Int) < 3 := by omega
      have kw : IntKind.i64.wrap ((k : Int) + 1) = (k : Int) + 1 := IntWalk.i64_in _ (by omega)
      have nk : IntKind.i64.wrap ((n : Int) + (k : Int)) = (m : Int) := by rw [IntWalk.i64_in _ (by omega)]; omega
      have nkl : (m : Int) < (n : Int) + 3 := by omega
      have m0 : ¬ (m : Int) < 0 := by omega
      clear own hx hbc bel hwr hcell hg' hm
      go_wp2_with fail
      refine wp_region_quiet_tail 11 (Ext _) (by kernel_rfl) (by kernel_rfl) (Ext.drawn _) ?_
      simp only [List.take_succ_cons, List.take_zero, List.drop_succ_cons, List.drop_zero]
      repeat (first | go_big_quiet_skip | go_big_quiet_step (fail) | (refine BigFrame.wpQuiet_want rfl (fun K hK => ?_); apply Exists.intro; refine ⟨fun w2 h2 => ?_, ?_⟩; (next => (have g1 := Below.cells h2.below; have g2 := Below.frozens h2.below; (try simp only [World.size_alloc, World.size_setCell] at g1 g2); first | (go_simp; (fail)) | (simp [go_sem, ↓IntWalk.iteOmega, *]; done) | (simp [go_sem, ↓IntWalk.iteOmega, *]; rfl)))); (go_simp; refine hK _ ?_; clear hK K))
      refine wpQuiet_nil ?_
      intro w1 h1
      have hb1 := h1.below
      clear h1
      have z1 := hb1.size
      have c1 := Below.cells hb1
      have f1 := Below.frozens hb1
      try simp only [World.size_alloc, World.size_setCell, World.size_drew] at z1 c1 f1
      go_wp2_with fail
      have hxl := HX.out
      have hmn := HM.out
      have hbx : bx ≠ g := by have := HG.out.1; have := HBx.out; omega
      have hbase : w.heap.size ≤ g := by have := HG.out.1; omega
      have O1 := own_below O.out hb1
      have hw1 := hb1.size
      go_roundw
      case rel =>
        refine ⟨k + 1, by omega, by go_num, own_far (own_far O1 (by omega) _) (by omega) _, fun i hi j hj => ?_, fun i => ?_, by simp; omega, ?_⟩
        · by_cases e : i = k
          · subst e
            rw [hmn]
            have c1 : ∀ j, j < 2 → w1.cell? ⟨g, m * 2 + j, none⟩ = wx.cell? ⟨g, m * 2 + j, none⟩ := fun j _ => hb1.cell (p := ⟨g, m * 2 + j, none⟩) hgl
            rcases (show j = 0 ∨ j = 1 by omega) with rfl | rfl
            · repeat rw [cell_off (by omega)]
              exact World.cell?_setCell_same (u := u0) _ _ _ ((c1 0 (by omega)).trans h0)
            · exact World.cell?_setCell_same (u := u1) _ _ _ (by repeat rw [cell_off (by omega)]
                                                                 exact (c1 1 (by omega)).trans h1)
          · rw [cell_off (by omega), cell_off (by omega), hb1.cell (p := ⟨g, (n + i) * 2 + j, none⟩) hgl]
            exact X.out i (by omega) j hj
        · simp only [cell_ne hbx]
          rw [hb1.cell (p := ⟨bx, i, none⟩) hbl]
          exact BC.out i
        · exact ((HBe.out.trans (hb1.mono HBe.out.size)).setCell (show _ ≤ (⟨g, m * 2, none⟩ : Addr).block from hbase) _).setCell (show _ ≤ (⟨g, m * 2 + 1, none⟩ : Addr).block from hbase) _
      case measure => simp [intOf]; omega
    · obtain rfl : k = 3 := by omega
      clear own hx hbc bel hwr hcell hfz hg'
      go_wp2_with fail
      go_ret
      exact ⟨g, rfl, O.out, X.out, HBe.out⟩
set_option maxHeartbeats 4000000 in
theorem markedU_ok (g n : Nat) (w : World) (hx : ∀ i, i < 3 → ∀ j, j < 2 → w.cell? ⟨g, (n + i) * 2 + j, none⟩ = markU[j]?) (hgl : g < w.heap.size) (hb : n * 16 ≤ 140737488351232) :
    Calls Tryz.prog 10 #[.slice (some ⟨g, 0, none⟩) n (n + 3), .agg #[.int .i64 (-5), .bool false]] w fun e w' => e = .returned (.bool true) ∧ Below w.heap.size w w' := by
  have X := Lib.hid hx
  have n3 : (n : Int) ≤ ((n + 3 : Nat) : Int) := by omega
  have n4 : ((n + 3 : Nat) : Int) - (n : Int) = 3 := by omega
  have n5 : n + 3 - n = 3 := by omega
  have n6 : ¬ n + 3 = n := by omega
  have qa := alloc_cells
  have qf := alloc_frozens
  clear hx
  go_enter Tryz.func10, Tryz.ntmps10
  go_wp2_with fail
  have b0 : Below w.heap.size w (w.alloc (.cells #[.int .i64 (-5), .bool false] 27)) := (Below.refl _ _).alloc (Nat.le_refl _) _
  have bc0 : ∀ i, (w.alloc (.cells #[.int .i64 (-5), .bool false] 27)).cell? ⟨w.heap.size, i, none⟩ = (#[.int .i64 (-5), .bool false] : Array Value)[i]? := fun i => World.cell?_alloc_new _ _ _ i
  have y0 : w.heap.size < (w.alloc (.cells #[.int .i64 (-5), .bool false] 27)).heap.size := by simp
  generalize w.alloc (.cells #[.int .i64 (-5), .bool false] 27) = w0 at b0 bc0 y0 ⊢
  have B0 := Lib.hid b0
  have BC := Lib.hid bc0
  obtain ⟨bx, hbx⟩ : ∃ q, w.heap.size = q := ⟨_, rfl⟩
  have HBx := Lib.hid hbx
  rw [hbx] at BC y0 ⊢
  clear b0 bc0 hbx qa qf
  go_loopw [14] (fun i wr => ∃ k : Nat, k ≤ 3 ∧ i = .int .i64 k ∧ Below w0.heap.size w0 wr) (fun i _ => 3 - (intOf i).toNat)
  case atStart => exact ⟨0, by omega, rfl, Below.refl _ _⟩
  case round =>
    obtain ⟨wx, rfl⟩ : ∃ q : World, q = wr := ⟨_, rfl⟩
    obtain ⟨k, hk, rfl, bel⟩ := hrel
    have szx := bel.size
    have BX := Lib.hid bel
    by_cases hlt : k < 3
    · have cl : ∀ j, j < 2 → wx.cell? ⟨g, n * 2 + k * 2 + j, none⟩ = markU[j]? := fun j hj => by
        have := X.out k hlt j hj
        rw [show (n + k) * 2 + j = n * 2 + k * 2 + j by omega] at this
        exact (bel.cell (p := ⟨g, n * 2 + k * 2 + j, none⟩) (by show g < _; have := HBx.out; omega)).trans ((B0.out.cell (p := ⟨g, n * 2 + k * 2 + j, none⟩) hgl).trans this)
      have h0 : wx.cell? ⟨g, n * 2 + k * 2, none⟩ = some (.int .i64 (-5)) := cl 0 (by omega)
      have h1 : wx.cell? ⟨g, n * 2 + k * 2 + 1, none⟩ = some (.bool false) := cl 1 (by omega)
      have x0 : wx.cell? ⟨bx, 0, none⟩ = some (.int .i64 (-5)) := (bel.cell (p := ⟨bx, 0, none⟩) y0).trans (BC.out 0)
      have x1 : wx.cell? ⟨bx, 1, none⟩ = some (.bool false) := (bel.cell (p := ⟨bx, 1, none⟩) y0).trans (BC.out 1)
      have kl : (k : Int) < 3 := by omega
      have kw : IntKind.i64.wrap ((k : Int) + 1) = (k : Int) + 1 := IntWalk.i64_in _ (by omega)
      have bl : bx < wx.heap.size := by omega
      have qa := alloc_cells
      have qf := alloc_frozens
      clear bel cl
      go_wp2_with fail
      go_roundw
      case rel => exact ⟨k + 1, by omega, by go_num, BX.out.alloc BX.out.size _⟩
      case measure => simp [intOf]; omega
    · obtain rfl : k = 3 := by omega
      go_wp2_with fail
      go_ret
      exact ⟨rfl, B0.out.trans (bel.mono B0.out.size)⟩
theorem equalU_ok (A B : Option Addr) (n c c' : Nat) (L : List Turn) (w : World) (ha : URow w A n L) (hb : URow w B n L) (hn : n ≤ 1000000000000000) :
    Calls Tryz.prog 9 #[.slice A n c, .slice B n c'] w fun e w' => e = .returned (.bool true) ∧ Below w.heap.size w w' := by
  have HA := Lib.hid ha
  have HB := Lib.hid hb
  have e0 : ((n : Int) == n) = true := by simp
  clear ha hb
  go_enter Tryz.func9, Tryz.ntmps9
  go_wp2_with fail
  go_loopw [13] (fun i wr => ∃ k : Nat, k ≤ n ∧ i = .int .i64 k ∧ Below w.heap.size w wr) (fun i _ => n - (intOf i).toNat)
  case atStart => exact ⟨0, Nat.zero_le _, rfl, Below.refl _ _⟩
  case round =>
    obtain ⟨k, hk, rfl, bel⟩ := hrel
    by_cases hlt : k < n
    · obtain ⟨ba, oa, rfl, la, a0, a1⟩ := (HA.out.below bel).at hlt
      obtain ⟨bb, ob, rfl, lb, b0, b1⟩ := (HB.out.below bel).at hlt
      obtain ⟨u, hu⟩ : ∃ u, L.getD k default = u := ⟨_, rfl⟩
      rw [hu] at a0 a1 b0 b1
      obtain ⟨t, ht⟩ : ∃ x, u.time = x := ⟨_, rfl⟩
      obtain ⟨o, ho⟩ : ∃ x, u.sus = x := ⟨_, rfl⟩
      rw [ht] at a0 b0
      rw [ho] at a1 b1
      have kw : IntKind.i64.wrap ((k : Int) + 1) = (k : Int) + 1 := IntWalk.i64_in _ (by omega)
      have HBe := Lib.hid bel
      clear hu ht ho bel
      go_wp2_with fail
      refine wp_region_quiet_all (Ext _) (by kernel_rfl) (by kernel_rfl) (Ext.drawn _) ?_
      repeat (first | go_big_quiet_skip | go_big_quiet_step (fail) | (refine BigFrame.wpQuiet_want rfl (fun K hK => ?_); apply Exists.intro; refine ⟨fun w2 h2 => ?_, ?_⟩; (next => (have g1 := Below.cells h2.below; have g2 := Below.frozens h2.below; (try simp only [World.size_alloc, World.size_setCell] at g1 g2); first | (go_simp; (fail)) | (simp [go_sem, ↓IntWalk.iteOmega, *]; done) | (simp [go_sem, ↓IntWalk.iteOmega, *]; rfl)))); (go_simp; refine hK _ ?_; clear hK K))
      refine wpQuiet_nil ?_
      intro w1 h1
      have hb1 := h1.below
      clear h1
      have z1 := hb1.size
      have c1 := Below.cells hb1
      have f1 := Below.frozens hb1
      try simp only [World.size_alloc, World.size_setCell, World.size_drew] at z1 c1 f1
      go_wp2_with fail
      go_roundw
      case rel => exact ⟨k + 1, by omega, by go_num, HBe.out.trans (hb1.mono HBe.out.size)⟩
      case measure => simp [intOf]; omega
    · obtain rfl : n = k := by omega
      go_wp2_with fail
      go_ret
      exact ⟨rfl, bel⟩
end Go.Proofs.YtpomdnglknbanaaGreat
namespace Go.Proofs.YtpomdnglknbanaaGreat
open Go Go.RowKit
def uvs : List Turn → List Value
  | [] => []
  | t :: r => .int .i64 t.time :: .bool t.sus :: uvs r
theorem uvs_len : ∀ (l : List Turn), (uvs l).length = l.length * 2
  | [] => rfl
  | x :: l => by simp only [uvs, List.length_cons, uvs_len l]; omega
theorem uvs_get : ∀ (l : List Turn) (k : Nat), k < l.length → (uvs l)[k * 2]? = some (.int .i64 (l.getD k default).time) ∧ (uvs l)[k * 2 + 1]? = some (.bool (l.getD k default).sus)
  | [], k, h => by simp at h
  | x :: l, 0, h => by simp [uvs]
  | x :: l, k + 1, h => by
    have := uvs_get l k (by simpa using h)
    rw [show (k + 1) * 2 = k * 2 + 2 by omega]
    simp only [uvs, List.getElem?_cons_succ, List.getD_cons_succ]
    exact this
theorem uvs_one : ∀ (l : List Turn), ∀ u ∈ uvs l, u.oneCell' = true
  | [], u, h => by simp [uvs] at h
  | x :: l, u, h => by
    simp only [uvs, List.mem_cons] at h
    rcases h with rfl | rfl | h
    · rfl
    · rfl
    · exact uvs_one l u h
theorem URow.of_own {w : World} {base n c : Nat} {A : Option Addr} {l : List Turn} {e : TypeId} (hl : l.length = n) (h : w.ownsRow base e 2 (.slice A n c) n (uvs l)) : URow w A n l := by
  refine ⟨hl, fun hn => ?_⟩
  obtain ⟨g, cap, hv, _, hlt⟩ := h.form hn
  have hA : A = some ⟨g, 0, none⟩ := by injection hv
  subst hA
  refine ⟨g, 0, rfl, hlt, fun k hk => ?_⟩
  have hg := uvs_get l k (by omega)
  have c1 := h.cells (g := g) rfl _ _ hg.1
  have c2 := h.cells (g := g) rfl _ _ hg.2
  rw [Go.WideShapes.add_plain] at c1 c2
  exact ⟨c1, c2⟩
theorem URow.cellsAt {w : World} {A : Option Addr} {n : Nat} {l : List Turn} (h : URow w A n l) : ∀ ad, A = some ad → ∀ j u, (uvs l)[j]? = some u → ad.block < w.heap.size ∧ w.cell? (ad.add j) = some u := by
  intro ad ha j u hu
  have hj : j < l.length * 2 := by
    have := (List.getElem?_eq_some_iff.1 hu).1
    rwa [uvs_len] at this
  have hl := h.1
  obtain ⟨b, off, e, lt, hc⟩ := h.2 (by omega)
  rw [ha] at e
  injection e with e
  subst e
  refine ⟨lt, ?_⟩
  obtain ⟨k, hk⟩ : ∃ k, k = j / 2 := ⟨_, rfl⟩
  have hg := uvs_get l k (by omega)
  have hc := hc k (by omega)
  rw [Go.WideShapes.add_plain]
  rcases Nat.mod_two_eq_zero_or_one j with p | p
  · obtain rfl : j = k * 2 := by omega
    rw [hg.1] at hu; rw [hc.1]; exact hu
  · obtain rfl : j = k * 2 + 1 := by omega
    rw [hg.2] at hu; rw [show off + (k * 2 + 1) = off + k * 2 + 1 by omega, hc.2]; exact hu
def UV (L : List Turn) : Prop := L.length ≤ 64 ∧ ∀ k, k < L.length → (L.getD k default).sus = par k ∧ bef (L.map Turn.time) k ≤ (L.getD k default).time ∧ (L.getD k default).time ≤ 100
theorem time_get {L : List Turn} {k : Nat} (hk : k < L.length) : (L.map Turn.time).getD k 0 = (L.getD k default).time := by
  simp [List.getD_eq_getElem?_getD, hk]
theorem UV.mono {L : List Turn} (h : UV L) : Mono (L.map Turn.time) 100 := ⟨by omega, fun k hk => by
  have hk' : k < L.length := by simpa using hk
  rw [time_get hk']
  exact (h.2 k hk').2⟩
theorem URow.trow {w : World} {A : Option Addr} {n : Nat} {L : List Turn} (h : URow w A n L) (hv : UV L) : MRow w A n (L.map Turn.time) :=
  ⟨by simpa using h.1, fun hn => by
    obtain ⟨b, off, e, lt, hc⟩ := h.2 hn
    have hl := h.1
    refine ⟨b, off, e, lt, fun k hk => ?_⟩
    rw [time_get (by omega), ← (hv.2 k (by omega)).1]
    exact hc k hk⟩
theorem first_gt (t : Int) : ∀ (l : List Int), ∃ c, c ≤ l.length ∧ (∀ j, j < c → l.getD j 0 ≤ t) ∧ (c < l.length → t < l.getD c 0)
  | [] => ⟨0, Nat.le_refl _, fun j hj => absurd hj (by omega), fun h => absurd h (by simp)⟩
  | x :: l => by
    by_cases hx : t < x
    · exact ⟨0, Nat.zero_le _, fun j hj => absurd hj (by omega), fun _ => by simpa using hx⟩
    · obtain ⟨c, h1, h2, h3⟩ := first_gt t l
      refine ⟨c + 1, by simpa using h1, fun j hj => ?_, fun h => by simpa using h3 (by simpa using h)⟩
      cases j with
      | zero => simp; omega
      | succ j => simpa using h2 j (by omega)
set_option maxHeartbeats 4000000 in
theorem mcheck_bad (A : Option Addr) (n c : Nat) (L : List Turn) (w : World) (h : URow w A n L) (hn : n ≤ 9223372036854775807) (hbad : ¬ UV L) :
    Calls Tryz.prog 34 #[.slice A n c, .int .i64 100] w fun x w' => (∃ k, x = .returned (.int .i64 k) ∧ (k != 0) = true) ∧ Below w.heap.size w w' := by
  have HT := Lib.hid h
  have HBad := Lib.hid hbad
  have HLn := Lib.hid h.1
  clear h hbad
  by_cases h64 : 64 < n
  · have h64i : (64 : Int) < n := by omega
    go_enter Tryz.func34, Tryz.ntmps34
    go_wp2_with fail
    go_ret
    exact ⟨⟨2, rfl, by simp⟩, Below.refl _ _⟩
  have h64i : ¬ (64 : Int) < n := by omega
  go_enter Tryz.func34, Tryz.ntmps34
  go_wp2_with fail
  go_loopw [5, 6, 20] (fun la is i wr => ∃ (k : Nat) (M : Int), k ≤ n ∧ i = .int .i64 k ∧ la = .int .i64 M ∧ bef (L.map Turn.time) k = M ∧ is = .bool (!par k) ∧ (∀ j, j < k → (L.getD j default).sus = par j ∧ bef (L.map Turn.time) j ≤ (L.getD j default).time ∧ (L.getD j default).time ≤ 100) ∧ Below w.heap.size w wr) (fun _ _ i _ => n - (intOf i).toNat)
  case atStart => exact ⟨0, 0, Nat.zero_le _, rfl, rfl, rfl, rfl, fun j hj => absurd hj (by omega), Below.refl _ _⟩
  case round =>
    obtain ⟨wx, rfl⟩ : ∃ q : World, q = wr := ⟨_, rfl⟩
    obtain ⟨k, M, hk, rfl, rfl, hM, rfl, hpre, bel⟩ := hrel
    have hsz := bel.size
    have HPre := Lib.hid hpre
    have HBe := Lib.hid bel
    have HMM := Lib.hid hM
    by_cases hlt : k < n
    · obtain ⟨b, off, rfl, ltA, hc⟩ := HT.out.2 (by omega)
      have h1 := (bel.cell (p := ⟨b, off + k * 2, none⟩) ltA).trans (hc k hlt).1
      have h2 := (bel.cell (p := ⟨b, off + k * 2 + 1, none⟩) ltA).trans (hc k hlt).2
      obtain ⟨x, hx⟩ : ∃ x, (L.getD k default).time = x := ⟨_, rfl⟩
      obtain ⟨s, hs⟩ : ∃ x, (L.getD k default).sus = x := ⟨_, rfl⟩
      rw [hx] at h1
      rw [hs] at h2
      have HXx := Lib.hid hx
      have HSs := Lib.hid hs
      have lk : k < L.length := by rw [HLn.out]; exact hlt
      clear hc hx hs hM hpre bel
      by_cases c1 : x < M
      · clear lk
        go_wp2_with fail
        go_ret
        exact ⟨⟨1, rfl, by simp⟩, HBe.out.alloc hsz _⟩
      · by_cases c2 : 100 < x
        · clear lk
          go_wp2_with fail
          go_ret
          exact ⟨⟨1, rfl, by simp⟩, HBe.out.alloc hsz _⟩
        · by_cases c3 : s = par k
          · have hp : (s == !par k) = false := by rw [c3]; cases par k <;> rfl
            have HC3 := Lib.hid c3
            have LK := Lib.hid lk
            clear c3 lk
            go_wp2_with fail
            refine wp_region_quiet_all (Ext _) (by kernel_rfl) (by kernel_rfl) (Ext.drawn _) ?_
            repeat (first | go_big_quiet_skip | go_big_quiet_step (fail) | (refine BigFrame.wpQuiet_want rfl (fun K hK => ?_); apply Exists.intro; refine ⟨fun w2 h2 => ?_, ?_⟩; (next => (have g1 := Below.cells h2.below; have g2 := Below.frozens h2.below; (try simp only [World.size_alloc, World.size_setCell] at g1 g2); first | (go_simp; (fail)) | (simp [go_sem, ↓IntWalk.iteOmega, *]; done) | (simp [go_sem, ↓IntWalk.iteOmega, *]; rfl)))); (go_simp; refine hK _ ?_; clear hK K))
            refine wpQuiet_nil ?_
            intro w1 h1
            have hb1 := h1.below
            clear h1
            have z1 := hb1.size
            have c1 := Below.cells hb1
            have f1 := Below.frozens hb1
            try simp only [World.size_alloc, World.size_setCell, World.size_drew] at z1 c1 f1
            go_wp2_with fail
            go_roundw
            case rel =>
              refine ⟨k + 1, x, by omega, by go_num, rfl, by rw [bef_succ, time_get LK.out, HXx.out], by rw [par_succ, HC3.out]; simp, fun j hj => ?_, (HBe.out.alloc hsz _).trans (hb1.mono (by simp; omega))⟩
              by_cases e : j = k
              · subst e
                rw [HXx.out, HSs.out, HMM.out]
                exact ⟨HC3.out, by omega, by omega⟩
              · exact HPre.out j (by omega)
            case measure => simp [intOf]; omega
          · have hp : (s == !par k) = true := by
              have : s = !par k := by revert c3; cases s <;> cases par k <;> simp
              rw [this]; simp
            clear c3 lk
            go_wp2_with fail
            go_ret
            exact ⟨⟨3, rfl, by simp⟩, HBe.out.alloc hsz _⟩
    · obtain rfl : n = k := by omega
      exact absurd ⟨by rw [HLn.out]; omega, fun j hj => HPre.out j (by rw [← HLn.out]; exact hj)⟩ HBad.out
theorem matW (A : Option Addr) (n c : Nat) (L : List Turn) (w : World) (h : URow w A n L) (hn : n ≤ 9223372036854775807) :
    Calls Tryz.prog 8 #[.slice A n c, .int .i64 100, .int .i64 5] w fun x w' => (∃ v, x = .returned v) ∧ Below w.heap.size w w' := by
  by_cases hv : UV L
  · obtain ⟨q, q1, q2, q3⟩ := first_gt 5 (L.map Turn.time)
    have hl := h.1
    have hl2 : (L.map Turn.time).length = n := by simpa using hl
    rw [hl2] at q1 q3
    exact (mat_ok A n c q (L.map Turn.time) 100 5 w (h.trow hv) (by have := hv.1; omega) hv.mono (by omega) (by omega) q1 q2 q3).mono fun _ _ ⟨e, b⟩ => ⟨⟨_, e⟩, b⟩
  have HC := Lib.hid (mcheck_bad A n c L w h hn hv)
  clear h hv
  go_enter Tryz.func8, Tryz.ntmps8
  go_wp2_with fail
  refine HC.out.mono ?_
  rintro x w1 ⟨⟨k, rfl, hk⟩, hb1⟩
  have HB := Lib.hid hb1
  clear hb1
  go_wp2_with fail
  go_ret2
  exact ⟨⟨_, rfl⟩, HB.out⟩
set_option maxHeartbeats 2000000 in
theorem mofW (A : Option Addr) (n c : Nat) (L : List Turn) (w : World) (h : URow w A n L) (hc : n ≤ c ∧ c ≤ maxLen ∧ (A = none → n = 0 ∧ c = 0)) :
    Calls Tryz.prog 7 #[.slice A n c, .int .i64 100] w fun x w' => (∃ v, x = .returned v) ∧ Below w.heap.size w w' := by
  have hn : n ≤ 9223372036854775807 := by have h1 := hc.1; have h2 := hc.2.1; unfold maxLen at h2; omega
  by_cases hv : UV L
  · have hl := h.1
    exact (mof_ok A n c (L.map Turn.time) 100 w ⟨h.trow hv, hc⟩ (by have := hv.1; omega) hv.mono (by omega)).mono fun _ _ ⟨e, b⟩ => ⟨⟨_, e⟩, b⟩
  have HC := Lib.hid (fun w' (hb : Below w.heap.size w w') => mcheck_bad A n c L w' (h.below hb) hn hv)
  have qa := alloc_cells
  have qf := alloc_frozens
  clear h hv hc hn
  go_enter Tryz.func7, Tryz.ntmps7
  go_wp2_with fail
  have ab : Below w.heap.size w (w.alloc (.cells #[.int .i64 0, .int .i64 0, .int .i64 0] 29)) := (Below.refl _ _).alloc (Nat.le_refl _) _
  refine (HC.out _ ab).mono ?_
  rintro x w1 ⟨⟨k, rfl, hk⟩, hb1⟩
  have bz : ∀ i, w1.cell? ⟨w.heap.size, i, none⟩ = (#[.int .i64 0, .int .i64 0, .int .i64 0] : Array Value)[i]? := fun i => (hb1.cell (p := ⟨w.heap.size, i, none⟩) (by simp)).trans (World.cell?_alloc_new _ _ _ i)
  have z0 : w1.cell? ⟨w.heap.size, 0, none⟩ = some (.int .i64 0) := bz 0
  have z1 : w1.cell? ⟨w.heap.size, 1, none⟩ = some (.int .i64 0) := bz 1
  have z2 : w1.cell? ⟨w.heap.size, 2, none⟩ = some (.int .i64 0) := bz 2
  have zf : ∀ o, w1.frozen? ⟨w.heap.size, o, none⟩ = false := fun o => by
    have := hb1.frozen (p := ⟨w.heap.size, o, none⟩) (by simp)
    rw [this]
    simp [qf]
  have HB := Lib.hid (ab.trans (hb1.mono (by simp)))
  obtain ⟨rb, hrb⟩ : ∃ q, w.heap.size = q := ⟨_, rfl⟩
  have HRb := Lib.hid hrb
  rw [hrb] at z0 z1 z2 zf ⊢
  clear bz hb1 ab hrb qa qf
  go_wp2_with fail
  refine bodyPost_ret (v := .tuple #[.agg #[.int .i64 0, .int .i64 0, .int .i64 0], .int .i64 k]) (by simp [results, Tryz.results7, go_sem, ↓IntWalk.iteOmega, *]) rfl ?_
  exact ⟨⟨_, rfl⟩, ((HB.out.setCell (show _ ≤ (⟨rb, 0, none⟩ : Addr).block from Nat.le_of_eq HRb.out) _).setCell (show _ ≤ (⟨rb, 1, none⟩ : Addr).block from Nat.le_of_eq HRb.out) _).setCell (show _ ≤ (⟨rb, 2, none⟩ : Addr).block from Nat.le_of_eq HRb.out) _⟩
end Go.Proofs.YtpomdnglknbanaaGreat
namespace Go.Proofs.YtpomdnglknbanaaGreat
open Go Go.RowKit Go.Deep Go.ChangeShapes Go.WideShapes Go.ChangeAt Go.Joins
section
variable {H : Type} {enc : TypeId × Value → H} {w : World} {base : Nat} {held : Bool}
set_option maxRecDepth 100000 in
theorem trod_turn {fuel : Nat} {cs : List Value} {x : DataW H × List MemPlace} (h : DataW.trod enc Tryz.prog w base (fun _ => true) held fuel 27 cs = some x) :
    ∃ p : Turn, cs = [.int .i64 p.time, .bool p.sus] := by
  obtain ⟨y0, y1, n, _, hl, h0, h1⟩ := trod_struct2 Tryz.underlying27 h
  have hc : Tryz.prog.cellsOf 27 = 2 := by kernel_rfl
  have hi : Tryz.prog.cellsOf 3 = 1 := by kernel_rfl
  have hb : Tryz.prog.cellsOf 4 = 1 := by kernel_rfl
  rw [hc] at hl
  match cs, hl with
  | [v0, v1], _ =>
    simp only [hi, hb, List.drop_zero, List.take_succ_cons, List.take_zero, List.drop_succ_cons] at h0 h1
    obtain ⟨a, ea, _, _⟩ := DataW.trod_int Tryz.underlying3 h0
    obtain ⟨b, eb, _⟩ := DataW.trod_bool Tryz.underlying4 h1
    simp only [List.cons.injEq, and_true] at ea eb
    subst ea eb
    exact ⟨⟨a, b⟩, rfl⟩
set_option maxRecDepth 100000 in
theorem turns_inz {v : Value} {d : DataW H} {p : List MemPlace} (hv : ∃ A n c, v = .slice A n c) (h : DataW.Trod enc Tryz.prog w base (fun _ => true) held 23 v d p) (hR : ∀ m ∈ d.weights Tryz.prog 23, m ≤ 140737488351232) :
    ∃ (A : Option Addr) (n c : Nat) (L : List Turn), v = .slice A n c ∧ URow w A n L ∧ (A = none → n = 0 ∧ c = 0) ∧ n * 16 ≤ 140737488351232 := by
  obtain ⟨A, n, c, rfl⟩ := hv
  obtain ⟨fuel, hf⟩ := h
  rcases open_slice (show Tryz.prog.underlying 23 = some (.slice 27) by kernel_rfl) hf with ⟨hcs, _⟩ | ⟨a, len, cap, m, k, D, Pl, hcs, _, hl, hm, hmm, hX, hx⟩
  · simp [Value.cells] at hcs
    obtain ⟨rfl, rfl, rfl⟩ := hcs
    exact ⟨none, 0, 0, [], rfl, ⟨rfl, fun h => absurd h (by omega)⟩, fun _ => ⟨rfl, rfl⟩, by omega⟩
  · simp [Value.cells] at hcs
    obtain ⟨rfl, rfl, rfl⟩ := hcs
    simp only [if_true] at hmm
    subst hmm
    have e1 := congrArg Prod.fst hX
    dsimp only at e1
    subst e1
    have hb16 : Tryz.prog.bytesOf 27 = 16 := by kernel_rfl
    have hcount : n * 16 ≤ 140737488351232 := by
      refine Nat.le_trans ?_ (hR ((n + (m - n)) * 16) ?_)
      · omega
      · simp only [DataW.weights, Tryz.underlying23, List.length_map, List.length_range, hb16]
        exact List.mem_cons_self
    have hform : 0 < n → ∃ b off, a = ⟨b, off, none⟩ := fun h0 => by
      obtain ⟨cs', h1, h2⟩ := hx 0 (by omega)
      rw [show Tryz.prog.cellsOf 27 = 2 by kernel_rfl] at h1
      obtain ⟨_, hlen, hcell⟩ := World.cells?_some h1
      obtain ⟨q, rfl⟩ := trod_turn h2
      have c0 := hcell 0 (by omega)
      obtain ⟨b, off, spot⟩ := a
      have hspot : spot = none := by simpa [Addr.add] using World.cell?_spot (c0.trans rfl)
      subst hspot
      exact ⟨b, off, rfl⟩
    have each : ∀ i, i < n → ∃ q : Turn, (∃ b off, a = ⟨b, off, none⟩ ∧ b < w.heap.size ∧ w.cell? ⟨b, off + i * 2, none⟩ = some (.int .i64 q.time) ∧ w.cell? ⟨b, off + i * 2 + 1, none⟩ = some (.bool q.sus)) := by
      intro i hi
      obtain ⟨cs', h1, h2⟩ := hx i (by omega)
      rw [show Tryz.prog.cellsOf 27 = 2 by kernel_rfl] at h1
      obtain ⟨_, hlen, hcell⟩ := World.cells?_some h1
      obtain ⟨q, rfl⟩ := trod_turn h2
      obtain ⟨b, off, rfl⟩ := hform (by omega)
      have cell : ∀ t, t < 2 → ∀ y, [Value.int .i64 q.time, .bool q.sus][t]? = some y → w.cell? ⟨b, off + i * 2 + t, none⟩ = some y := fun t ht y hy => by
        have := hcell t ht
        rw [add_add, Go.WideShapes.add_plain, hy] at this
        rw [Nat.add_assoc]; exact this
      exact ⟨q, b, off, rfl, World.block_lt_of_cell? w _ (cell 0 (by omega) _ rfl), cell 0 (by omega) _ rfl, cell 1 (by omega) _ rfl⟩
    obtain ⟨q, hq⟩ := choose_lt each
    have hg : ∀ i, i < n → ((List.range n).map q).getD i default = q i := fun i hi => by simp [List.getD_eq_getElem?_getD, hi]
    refine ⟨some a, n, _, (List.range n).map q, rfl, ⟨by simp, fun h0 => ?_⟩, (fun e => by cases e), hcount⟩
    obtain ⟨b, off, rfl, hb, _⟩ := hq 0 h0
    refine ⟨b, off, rfl, hb, fun i hi => ?_⟩
    rw [hg i hi]
    obtain ⟨b', off', e, _, hp⟩ := hq i hi
    simp only [Addr.mk.injEq, and_true] at e
    obtain ⟨rfl, rfl⟩ := e
    exact hp
end
end Go.Proofs.YtpomdnglknbanaaGreat
namespace Go.Proofs.YtpomdnglknbanaaGreat
open Go Go.RowKit
set_option maxRecDepth 100000 in
set_option maxHeartbeats 8000000 in
theorem spoilN_ok (A : Option Addr) (n c base : Nat) (w : World) (h : Wr w base A (c * 3)) (hn : n ≤ c) (hc : c ≤ maxLen) (hb : base ≤ w.heap.size) :
    Calls Tryz.prog 15 #[.slice A n c, .agg #[.string ⟨#[]⟩, .int .i64 99, .bool false]] w fun e w' => (∃ v, e = .returned v) ∧ w.grownBy w' (Value.slice A n c).ownBlock := by
  unfold maxLen at hc
  have nc : (n : Int) ≤ c := by omega
  have qa := alloc_cells
  have qf := alloc_frozens
  rcases A with _ | ad
  · have c0 : c = 0 := by have := h.1 rfl; omega
    subst c0
    obtain rfl : n = 0 := by omega
    clear h
    go_enter Tryz.func15, Tryz.ntmps15
    go_wp2_with fail
    go_loopw [11] (fun i wr => i = .int .i64 0 ∧ w.grownBy wr none) (fun i _ => 0)
    case atStart => exact ⟨rfl, World.grownBy_alloc w _ none⟩
    case round =>
      obtain ⟨rfl, hg⟩ := hrel
      go_wp2_with fail
      go_end0
      exact ⟨⟨_, rfl⟩, hg⟩
  · obtain ⟨g, rfl, hbg, hgl, hcell, hfz⟩ := h.2 ad rfl
    have HC := Lib.hid hcell
    have HF := Lib.hid hfz
    clear h hcell hfz
    go_enter Tryz.func15, Tryz.ntmps15
    go_wp2_with fail
    have gr0 : w.grownBy (w.alloc (.cells #[.string ⟨#[]⟩, .int .i64 99, .bool false] 46)) (some g) := World.grownBy_alloc w _ _
    have bc : ∀ i, (w.alloc (.cells #[.string ⟨#[]⟩, .int .i64 99, .bool false] 46)).cell? ⟨w.heap.size, i, none⟩ = (#[.string ⟨#[]⟩, .int .i64 99, .bool false] : Array Value)[i]? := fun i => World.cell?_alloc_new _ _ _ i
    have wr0 : Wr (w.alloc (.cells #[.string ⟨#[]⟩, .int .i64 99, .bool false] 46)) base (some ⟨g, 0, none⟩) (c * 3) := by
      refine Wr.same (w := w) ⟨(fun h => by cases h), fun ad ha => ?_⟩ (by simp) (fun g' off e => ?_)
      · cases ha
        exact ⟨g, rfl, hbg, hgl, HC.out, HF.out⟩
      · injection e with e
        injection e with e1 e2
        subst e1
        exact Below.heap_alloc w _ _ hgl
    have z0 : w.heap.size < (w.alloc (.cells #[.string ⟨#[]⟩, .int .i64 99, .bool false] 46)).heap.size := by simp
    generalize w.alloc (.cells #[.string ⟨#[]⟩, .int .i64 99, .bool false] 46) = w1 at gr0 bc wr0 z0 ⊢
    obtain ⟨bx, hbx⟩ : ∃ q, w.heap.size = q := ⟨_, rfl⟩
    have HBx := Lib.hid hbx
    have hgb : g < bx := by omega
    rw [hbx] at bc z0 ⊢
    have G0 := Lib.hid gr0
    have BC := Lib.hid bc
    have W0 := Lib.hid wr0
    clear gr0 bc wr0 hbx qa qf HC HF
    go_loopw [11] (fun i wr => ∃ k : Nat, k ≤ c ∧ i = .int .i64 k ∧ w.grownBy wr (some g) ∧ Wr wr base (some ⟨g, 0, none⟩) (c * 3) ∧ (∀ i, wr.cell? ⟨bx, i, none⟩ = (#[.string ⟨#[]⟩, .int .i64 99, .bool false] : Array Value)[i]?) ∧ bx < wr.heap.size) (fun i _ => c - (intOf i).toNat)
    case atStart => exact ⟨0, Nat.zero_le _, rfl, G0.out, W0.out, BC.out, z0⟩
    case round =>
      obtain ⟨wx, rfl⟩ : ∃ q : World, q = wr := ⟨_, rfl⟩
      clear G0 W0 BC z0
      obtain ⟨k, hk, rfl, hg, hwr, hbc, hbl⟩ := hrel
      have HG := Lib.hid hg
      have HW := Lib.hid hwr
      have HB := Lib.hid hbc
      by_cases hlt : k < c
      · obtain ⟨g', e, _, hl2, hcell, hfz⟩ := hwr.2 _ rfl
        injection e with e _
        subst e
        obtain ⟨u0, h0⟩ := hcell (k * 3) (by omega)
        obtain ⟨u1, h1⟩ := hcell (k * 3 + 1) (by omega)
        obtain ⟨u2, h2⟩ := hcell (k * 3 + 2) (by omega)
        have x0 : wx.cell? ⟨bx, 0, none⟩ = some (.string ⟨#[]⟩) := hbc 0
        have x1 : wx.cell? ⟨bx, 1, none⟩ = some (.int .i64 99) := hbc 1
        have x2 : wx.cell? ⟨bx, 2, none⟩ = some (.bool false) := hbc 2
        have kl : (k : Int) < c := by omega
        have kw : IntKind.i64.wrap ((k : Int) + 1) = (k : Int) + 1 := IntWalk.i64_in _ (by omega)
        clear hg hwr hbc hcell
        go_wp2_with fail
        go_roundw
        case rel => exact ⟨k + 1, by omega, by go_num, grown_setV (grown_setV (grown_setV HG.out _ _) _ _) _ _, ((HW.out.setCell _ _ _).setCell _ _ _).setCell _ _ _, fun i => by simp only [cell_ne (show bx ≠ g by omega)]; exact HB.out i, by simpa using hbl⟩
        case measure => simp [intOf]; omega
      · obtain rfl : c = k := by omega
        clear hg hwr hbc
        go_wp2_with fail
        go_end0
        exact ⟨⟨_, rfl⟩, HG.out⟩
set_option maxRecDepth 100000 in
set_option maxHeartbeats 8000000 in
theorem spoilS_ok (A : Option Addr) (n c base : Nat) (w : World) (h : Wr w base A (c * 3)) (hn : n ≤ c) (hc : c ≤ maxLen) (hb : base ≤ w.heap.size) :
    Calls Tryz.prog 18 #[.slice A n c, .agg #[.string ⟨#[]⟩, .int .i64 99, .bool false]] w fun e w' => (∃ v, e = .returned v) ∧ w.grownBy w' (Value.slice A n c).ownBlock := by
  unfold maxLen at hc
  have nc : (n : Int) ≤ c := by omega
  have qa := alloc_cells
  have qf := alloc_frozens
  rcases A with _ | ad
  · have c0 : c = 0 := by have := h.1 rfl; omega
    subst c0
    obtain rfl : n = 0 := by omega
    clear h
    go_enter Tryz.func18, Tryz.ntmps18
    go_wp2_with fail
    go_loopw [11] (fun i wr => i = .int .i64 0 ∧ w.grownBy wr none) (fun i _ => 0)
    case atStart => exact ⟨rfl, World.grownBy_alloc w _ none⟩
    case round =>
      obtain ⟨rfl, hg⟩ := hrel
      go_wp2_with fail
      go_end0
      exact ⟨⟨_, rfl⟩, hg⟩
  · obtain ⟨g, rfl, hbg, hgl, hcell, hfz⟩ := h.2 ad rfl
    have HC := Lib.hid hcell
    have HF := Lib.hid hfz
    clear h hcell hfz
    go_enter Tryz.func18, Tryz.ntmps18
    go_wp2_with fail
    have gr0 : w.grownBy (w.alloc (.cells #[.string ⟨#[]⟩, .int .i64 99, .bool false] 53)) (some g) := World.grownBy_alloc w _ _
    have bc : ∀ i, (w.alloc (.cells #[.string ⟨#[]⟩, .int .i64 99, .bool false] 53)).cell? ⟨w.heap.size, i, none⟩ = (#[.string ⟨#[]⟩, .int .i64 99, .bool false] : Array Value)[i]? := fun i => World.cell?_alloc_new _ _ _ i
    have wr0 : Wr (w.alloc (.cells #[.string ⟨#[]⟩, .int .i64 99, .bool false] 53)) base (some ⟨g, 0, none⟩) (c * 3) := by
      refine Wr.same (w := w) ⟨(fun h => by cases h), fun ad ha => ?_⟩ (by simp) (fun g' off e => ?_)
      · cases ha
        exact ⟨g, rfl, hbg, hgl, HC.out, HF.out⟩
      · injection e with e
        injection e with e1 e2
        subst e1
        exact Below.heap_alloc w _ _ hgl
    have z0 : w.heap.size < (w.alloc (.cells #[.string ⟨#[]⟩, .int .i64 99, .bool false] 53)).heap.size := by simp
    generalize w.alloc (.cells #[.string ⟨#[]⟩, .int .i64 99, .bool false] 53) = w1 at gr0 bc wr0 z0 ⊢
    obtain ⟨bx, hbx⟩ : ∃ q, w.heap.size = q := ⟨_, rfl⟩
    have HBx := Lib.hid hbx
    have hgb : g < bx := by omega
    rw [hbx] at bc z0 ⊢
    have G0 := Lib.hid gr0
    have BC := Lib.hid bc
    have W0 := Lib.hid wr0
    clear gr0 bc wr0 hbx qa qf HC HF
    go_loopw [11] (fun i wr => ∃ k : Nat, k ≤ c ∧ i = .int .i64 k ∧ w.grownBy wr (some g) ∧ Wr wr base (some ⟨g, 0, none⟩) (c * 3) ∧ (∀ i, wr.cell? ⟨bx, i, none⟩ = (#[.string ⟨#[]⟩, .int .i64 99, .bool false] : Array Value)[i]?) ∧ bx < wr.heap.size) (fun i _ => c - (intOf i).toNat)
    case atStart => exact ⟨0, Nat.zero_le _, rfl, G0.out, W0.out, BC.out, z0⟩
    case round =>
      obtain ⟨wx, rfl⟩ : ∃ q : World, q = wr := ⟨_, rfl⟩
      clear G0 W0 BC z0
      obtain ⟨k, hk, rfl, hg, hwr, hbc, hbl⟩ := hrel
      have HG := Lib.hid hg
      have HW := Lib.hid hwr
      have HB := Lib.hid hbc
      by_cases hlt : k < c
      · obtain ⟨g', e, _, hl2, hcell, hfz⟩ := hwr.2 _ rfl
        injection e with e _
        subst e
        obtain ⟨u0, h0⟩ := hcell (k * 3) (by omega)
        obtain ⟨u1, h1⟩ := hcell (k * 3 + 1) (by omega)
        obtain ⟨u2, h2⟩ := hcell (k * 3 + 2) (by omega)
        have x0 : wx.cell? ⟨bx, 0, none⟩ = some (.string ⟨#[]⟩) := hbc 0
        have x1 : wx.cell? ⟨bx, 1, none⟩ = some (.int .i64 99) := hbc 1
        have x2 : wx.cell? ⟨bx, 2, none⟩ = some (.bool false) := hbc 2
        have kl : (k : Int) < c := by omega
        have kw : IntKind.i64.wrap ((k : Int) + 1) = (k : Int) + 1 := IntWalk.i64_in _ (by omega)
        clear hg hwr hbc hcell
        go_wp2_with fail
        go_roundw
        case rel => exact ⟨k + 1, by omega, by go_num, grown_setV (grown_setV (grown_setV HG.out _ _) _ _) _ _, ((HW.out.setCell _ _ _).setCell _ _ _).setCell _ _ _, fun i => by simp only [cell_ne (show bx ≠ g by omega)]; exact HB.out i, by simpa using hbl⟩
        case measure => simp [intOf]; omega
      · obtain rfl : c = k := by omega
        clear hg hwr hbc
        go_wp2_with fail
        go_end0
        exact ⟨⟨_, rfl⟩, HG.out⟩
set_option maxRecDepth 100000 in
set_option maxHeartbeats 8000000 in
theorem spoilT_ok (A : Option Addr) (n c base : Nat) (x : ByteArray) (w : World) (h : Wr w base A c) (hn : n ≤ c) (hc : c ≤ maxLen) :
    Calls Tryz.prog 21 #[.slice A n c, .string x] w fun e w' => (∃ v, e = .returned v) ∧ w.grownBy w' (Value.slice A n c).ownBlock ∧ w'.heap.size = w.heap.size ∧ ∀ B A' c', Wr w B A' c' → Wr w' B A' c' := by
  unfold maxLen at hc
  have nc : (n : Int) ≤ c := by omega
  rcases A with _ | ad
  · have c0 : c = 0 := h.1 rfl
    subst c0
    obtain rfl : n = 0 := by omega
    clear h
    go_enter Tryz.func21, Tryz.ntmps21
    go_wp2_with fail
    go_loopw [11] (fun i wr => i = .int .i64 0 ∧ wr = w) (fun i _ => 0)
    case atStart => exact ⟨rfl, rfl⟩
    case round =>
      obtain ⟨rfl, rfl⟩ := hrel
      go_wp2_with fail
      go_end0
      exact ⟨⟨_, rfl⟩, World.grownBy.refl _ _, rfl, fun _ _ _ h => h⟩
  · obtain ⟨g, rfl, hbg, hgl, hcell, hfz⟩ := h.2 ad rfl
    have HC := Lib.hid hcell
    have HF := Lib.hid hfz
    clear h hcell hfz
    go_enter Tryz.func21, Tryz.ntmps21
    go_wp2_with fail
    go_loopw [11] (fun i wr => ∃ k : Nat, k ≤ c ∧ i = .int .i64 k ∧ w.grownBy wr (some g) ∧ wr.heap.size = w.heap.size ∧ (∀ i, i < c → ∃ u, wr.cell? ⟨g, i, none⟩ = some u) ∧ (∀ o, wr.frozen? ⟨g, o, none⟩ = false) ∧ ∀ B A' c', Wr w B A' c' → Wr wr B A' c') (fun i _ => c - (intOf i).toNat)
    case atStart => exact ⟨0, Nat.zero_le _, rfl, World.grownBy.refl _ _, rfl, HC.out, HF.out, fun _ _ _ h => h⟩
    case round =>
      obtain ⟨wx, rfl⟩ : ∃ z : World, z = wr := ⟨_, rfl⟩
      obtain ⟨k, hk, rfl, hg, hz, hcell, hfz, hwr⟩ := hrel
      have HW := Lib.hid hwr
      clear hwr
      by_cases hlt : k < c
      · obtain ⟨u, hu⟩ := hcell k hlt
        have kf := hfz k
        have kl : (k : Int) < c := by omega
        have kw : IntKind.i64.wrap ((k : Int) + 1) = (k : Int) + 1 := IntWalk.i64_in _ (by omega)
        have HG := Lib.hid hg
        have HZ := Lib.hid hz
        have HCl := Lib.hid hcell
        have HFz := Lib.hid hfz
        clear hg hz hcell hfz HC HF
        go_wp2_with fail
        go_roundw
        case rel =>
          refine ⟨k + 1, by omega, by go_num, grown_setV HG.out k _, by simpa using HZ.out, fun i hi => ?_, fun o => by simpa using HFz.out o, fun B A' c' h => (HW.out B A' c' h).setCell g k _⟩
          by_cases e : i = k
          · subst e
            exact ⟨_, World.cell?_setCell_same _ _ _ (by rw [hu])⟩
          · obtain ⟨v, hv⟩ := HCl.out i hi
            exact ⟨v, (World.cell?_setCell_other _ _ _ _ (fun e' => by injection e' with _ e2; omega)).trans hv⟩
        case measure => simp [intOf]; omega
      · obtain rfl : c = k := by omega
        have HG := Lib.hid hg
        have HZ := Lib.hid hz
        clear hg hz hcell hfz
        go_wp2_with fail
        go_end0
        exact ⟨⟨_, rfl⟩, HG.out, HZ.out, HW.out⟩
theorem equalN_ok (A B : Option Addr) (n c c' : Nat) (L : List Note) (w : World) (ha : NoteRow w A n L) (hb : NoteRow w B n L) (hn : n ≤ 9223372036854775807) :
    Calls Tryz.prog 14 #[.slice A n c, .slice B n c'] w fun e w' => e = .returned (.bool true) ∧ Below w.heap.size w w' := by
  have HA := Lib.hid ha
  have HB := Lib.hid hb
  have e0 : ((n : Int) == n) = true := by simp
  clear ha hb
  go_enter Tryz.func14, Tryz.ntmps14
  go_wp2_with fail
  go_loopw [13] (fun i wr => ∃ k : Nat, k ≤ n ∧ i = .int .i64 k ∧ Below w.heap.size w wr) (fun i _ => n - (intOf i).toNat)
  case atStart => exact ⟨0, Nat.zero_le _, rfl, Below.refl _ _⟩
  case round =>
    obtain ⟨k, hk, rfl, bel⟩ := hrel
    by_cases hlt : k < n
    · obtain ⟨ba, oa, rfl, la, a0, a1, a2⟩ := (HA.out.below bel).at hlt
      obtain ⟨bb, ob, rfl, lb, b0, b1, b2⟩ := (HB.out.below bel).at hlt
      obtain ⟨u, hu⟩ : ∃ u, L.getD k default = u := ⟨_, rfl⟩
      rw [hu] at a0 a1 a2 b0 b1 b2
      obtain ⟨s, hs⟩ : ∃ x, u.id = x := ⟨_, rfl⟩
      obtain ⟨t, ht⟩ : ∃ x, u.theta = x := ⟨_, rfl⟩
      obtain ⟨o, ho⟩ : ∃ x, u.sus = x := ⟨_, rfl⟩
      rw [hs] at a0 b0
      rw [ht] at a1 b1
      rw [ho] at a2 b2
      have kw : IntKind.i64.wrap ((k : Int) + 1) = (k : Int) + 1 := IntWalk.i64_in _ (by omega)
      have HBe := Lib.hid bel
      clear hu hs ht ho bel
      go_wp2_with fail
      refine wp_region_quiet_all (Ext _) (by kernel_rfl) (by kernel_rfl) (Ext.drawn _) ?_
      repeat (first | go_big_quiet_skip | go_big_quiet_step (fail) | (refine BigFrame.wpQuiet_want rfl (fun K hK => ?_); apply Exists.intro; refine ⟨fun w2 h2 => ?_, ?_⟩; (next => (have g1 := Below.cells h2.below; have g2 := Below.frozens h2.below; (try simp only [World.size_alloc, World.size_setCell] at g1 g2); first | (go_simp; (fail)) | (simp [go_sem, ↓IntWalk.iteOmega, *]; done) | (simp [go_sem, ↓IntWalk.iteOmega, *]; rfl)))); (go_simp; refine hK _ ?_; clear hK K))
      refine wpQuiet_nil ?_
      intro w1 h1
      have hb1 := h1.below
      clear h1
      have z1 := hb1.size
      have c1 := Below.cells hb1
      have f1 := Below.frozens hb1
      try simp only [World.size_alloc, World.size_setCell, World.size_drew] at z1 c1 f1
      go_wp2_with fail
      go_roundw
      case rel => exact ⟨k + 1, by omega, by go_num, HBe.out.trans (hb1.mono HBe.out.size)⟩
      case measure => simp [intOf]; omega
    · obtain rfl : n = k := by omega
      go_wp2_with fail
      go_ret
      exact ⟨rfl, bel⟩
end Go.Proofs.YtpomdnglknbanaaGreat
namespace Go.Proofs.YtpomdnglknbanaaGreat
open Go Go.RowKit
end Go.Proofs.YtpomdnglknbanaaGreat
namespace Go.Proofs.YtpomdnglknbanaaGreat
open Go Go.RowKit
theorem TRep.imp {w : World} {t : Nat} {S : TSt} {f g : Nat → Prop} (h : TRep w t S f) (hi : ∀ x, f x → g x) (hg : ∀ x, g x → x < w.heap.size) : TRep w t S g := by
  obtain ⟨c, ga, gn, gd, ca, cn, cd, wv, bs, h1, h2, h3, h4, h5, h6, h7, h8, h9, h10, h11, h12⟩ := h
  exact ⟨c, ga, gn, gd, ca, cn, cd, wv, bs, h1, h2, h3, h4, h5, h6, fun i hi' => (h7 i hi').imp (fun x hx => ⟨hi x hx.1, hx.2⟩) (fun x hx => hg x hx.1), ⟨hi _ h8.1, hi _ h8.2.1, hi _ h8.2.2.1, hi _ h8.2.2.2⟩, h9, fun g' hg' => ⟨hi _ (h10 g' hg').1, (h10 g' hg').2⟩, hg, h12⟩
theorem Same.imp {f g : Nat → Prop} {w w' : World} (h : Same f w w') (hi : ∀ x, g x → f x) : Same g w w' := ⟨h.1, fun b hb hf => h.2 b hb (hi b hf)⟩
/-- Whose block it is: 1 and 2 the nodes, 3 and 4 the towns. -/
structure QuadC (base : Nat) (w : World) (c : Nat → Nat) (a b t u : Nat) (sa sb : NSt) (S T : TSt) : Prop where
  le : base ≤ w.heap.size
  col : ∀ x, c x ≠ 0 → base ≤ x ∧ x < w.heap.size
  a : NRep w a sa (fun x => c x = 1)
  b : NRep w b sb (fun x => c x = 2)
  t : TRep w t S (fun x => c x = 3)
  u : TRep w u T (fun x => c x = 4)
variable {base : Nat} {w w' : World} {c : Nat → Nat} {a b t u : Nat} {sa sb s' : NSt} {S T S' : TSt}
theorem QuadC.same (h : QuadC base w c a b t u sa sb S T) (hs : Same (fun x => c x ≠ 0) w w') : QuadC base w' c a b t u sa sb S T :=
  ⟨Nat.le_trans h.le hs.1, fun x hx => ⟨(h.col x hx).1, Nat.lt_of_lt_of_le (h.col x hx).2 hs.1⟩, h.a.same (hs.imp (fun x (hx : c x = 1) => by omega)), h.b.same (hs.imp (fun x (hx : c x = 2) => by omega)), h.t.same (hs.imp (fun x (hx : c x = 3) => by omega)), h.u.same (hs.imp (fun x (hx : c x = 4) => by omega))⟩
theorem QuadC.below (h : QuadC base w c a b t u sa sb S T) (hb : Below w.heap.size w w') : QuadC base w' c a b t u sa sb S T := h.same (Same.of_below hb)
theorem QuadC.zero (h : QuadC base w c a b t u sa sb S T) {x : Nat} (hx : w.heap.size ≤ x) : c x = 0 := by
  by_cases e : c x = 0
  · exact e
  · have := (h.col x e).2; omega
/-- What is new between lo and M is k's. -/
def recol (c : Nat → Nat) (lo M k : Nat) : Nat → Nat := fun x => if lo ≤ x ∧ x < M then k else c x
theorem recol_old {lo M k x : Nat} (hx : x < lo) : recol c lo M k x = c x := if_neg (by omega)
theorem recol_new {lo M k x : Nat} (hx : M ≤ x) : recol c lo M k x = c x := if_neg (by omega)
theorem recol_in {lo M k x : Nat} (h : lo ≤ x ∧ x < M) : recol c lo M k x = k := if_pos h
theorem QuadC.recolc (h : QuadC base w c a b t u sa sb S T) {M k : Nat} (hM : w.heap.size ≤ M ∧ M ≤ w'.heap.size) : ∀ x, recol c w.heap.size M k x ≠ 0 → base ≤ x ∧ x < w'.heap.size := fun x hx => by
  have := h.le
  by_cases e : w.heap.size ≤ x ∧ x < M
  · omega
  · unfold recol at hx
    rw [if_neg e] at hx
    have := h.col x hx
    omega
theorem rec_eq (h : QuadC base w c a b t u sa sb S T) {M k j x : Nat} (hj : j ≠ 0) (hx : c x = j) : recol c w.heap.size M k x = j := by
  rw [recol_old (h.col x (by omega)).2, hx]
theorem rec_lt (h : QuadC base w c a b t u sa sb S T) {M k : Nat} (hM : w.heap.size ≤ M ∧ M ≤ w'.heap.size) {j : Nat} (hj : j ≠ 0) : ∀ x, recol c w.heap.size M k x = j → x < w'.heap.size := fun x hx => (h.recolc (k := k) hM x (by rw [hx]; exact hj)).2
theorem sameOf {k j : Nat} (hk : Kept (fun x => c x = k) w w') (hj : j ≠ k) : Same (fun x => c x = j) w w' := hk.same (fun x (hx : c x = j) e => hj (by rw [← hx]; exact e))
theorem QuadC.setA (h : QuadC base w c a b t u sa sb S T) {g : Nat → Prop} {M : Nat} (hr : NRep w' a s' g) (hk : Kept (fun x => c x = 1) w w') (hM : w.heap.size ≤ M ∧ M ≤ w'.heap.size) (hg : ∀ x, g x → c x = 1 ∨ (w.heap.size ≤ x ∧ x < M)) :
    QuadC base w' (recol c w.heap.size M 1) a b t u s' sb S T :=
  ⟨Nat.le_trans h.le hk.size, h.recolc hM, hr.imp (fun x hx => (hg x hx).elim (fun e => rec_eq h (by omega) e) (fun e => recol_in e)) (rec_lt h hM (by omega)),
    (h.b.same (sameOf hk (by omega))).imp (fun x hx => rec_eq h (by omega) hx) (rec_lt h hM (by omega)), (h.t.same (sameOf hk (by omega))).imp (fun x hx => rec_eq h (by omega) hx) (rec_lt h hM (by omega)), (h.u.same (sameOf hk (by omega))).imp (fun x hx => rec_eq h (by omega) hx) (rec_lt h hM (by omega))⟩
theorem QuadC.setB (h : QuadC base w c a b t u sa sb S T) {g : Nat → Prop} {M : Nat} (hr : NRep w' b s' g) (hk : Kept (fun x => c x = 2) w w') (hM : w.heap.size ≤ M ∧ M ≤ w'.heap.size) (hg : ∀ x, g x → c x = 2 ∨ (w.heap.size ≤ x ∧ x < M)) :
    QuadC base w' (recol c w.heap.size M 2) a b t u sa s' S T :=
  ⟨Nat.le_trans h.le hk.size, h.recolc hM, (h.a.same (sameOf hk (by omega))).imp (fun x hx => rec_eq h (by omega) hx) (rec_lt h hM (by omega)),
    hr.imp (fun x hx => (hg x hx).elim (fun e => rec_eq h (by omega) e) (fun e => recol_in e)) (rec_lt h hM (by omega)), (h.t.same (sameOf hk (by omega))).imp (fun x hx => rec_eq h (by omega) hx) (rec_lt h hM (by omega)), (h.u.same (sameOf hk (by omega))).imp (fun x hx => rec_eq h (by omega) hx) (rec_lt h hM (by omega))⟩
theorem QuadC.setT (h : QuadC base w c a b t u sa sb S T) {g : Nat → Prop} {M : Nat} (hr : TRep w' t S' g) (hk : Kept (fun x => c x = 3) w w') (hM : w.heap.size ≤ M ∧ M ≤ w'.heap.size) (hg : ∀ x, g x → c x = 3 ∨ (w.heap.size ≤ x ∧ x < M)) :
    QuadC base w' (recol c w.heap.size M 3) a b t u sa sb S' T :=
  ⟨Nat.le_trans h.le hk.size, h.recolc hM, (h.a.same (sameOf hk (by omega))).imp (fun x hx => rec_eq h (by omega) hx) (rec_lt h hM (by omega)), (h.b.same (sameOf hk (by omega))).imp (fun x hx => rec_eq h (by omega) hx) (rec_lt h hM (by omega)),
    hr.imp (fun x hx => (hg x hx).elim (fun e => rec_eq h (by omega) e) (fun e => recol_in e)) (rec_lt h hM (by omega)), (h.u.same (sameOf hk (by omega))).imp (fun x hx => rec_eq h (by omega) hx) (rec_lt h hM (by omega))⟩
theorem QuadC.setU (h : QuadC base w c a b t u sa sb S T) {g : Nat → Prop} {M : Nat} (hr : TRep w' u S' g) (hk : Kept (fun x => c x = 4) w w') (hM : w.heap.size ≤ M ∧ M ≤ w'.heap.size) (hg : ∀ x, g x → c x = 4 ∨ (w.heap.size ≤ x ∧ x < M)) :
    QuadC base w' (recol c w.heap.size M 4) a b t u sa sb S S' :=
  ⟨Nat.le_trans h.le hk.size, h.recolc hM, (h.a.same (sameOf hk (by omega))).imp (fun x hx => rec_eq h (by omega) hx) (rec_lt h hM (by omega)), (h.b.same (sameOf hk (by omega))).imp (fun x hx => rec_eq h (by omega) hx) (rec_lt h hM (by omega)), (h.t.same (sameOf hk (by omega))).imp (fun x hx => rec_eq h (by omega) hx) (rec_lt h hM (by omega)),
    hr.imp (fun x hx => (hg x hx).elim (fun e => rec_eq h (by omega) e) (fun e => recol_in e)) (rec_lt h hM (by omega))⟩
def col4 (z0 z1 z2 z3 z4 : Nat) : Nat → Nat := fun x => if x < z0 then 0 else if x < z1 then 1 else if x < z2 then 2 else if x < z3 then 3 else if x < z4 then 4 else 0
theorem quad_start {z0 z1 z2 z3 z4 : Nat} {f1 f2 f3 f4 : Nat → Prop} (h1 : NRep w a sa f1) (h2 : NRep w b sb f2) (h3 : TRep w t S f3) (h4 : TRep w u T f4) (e1 : ∀ x, f1 x → z0 ≤ x ∧ x < z1) (e2 : ∀ x, f2 x → z1 ≤ x ∧ x < z2) (e3 : ∀ x, f3 x → z2 ≤ x ∧ x < z3) (e4 : ∀ x, f4 x → z3 ≤ x ∧ x < z4) (l1 : z0 ≤ z1) (l2 : z1 ≤ z2) (l3 : z2 ≤ z3) (l4 : z3 ≤ z4) (l5 : z4 ≤ w.heap.size) :
    QuadC z0 w (col4 z0 z1 z2 z3 z4) a b t u sa sb S T := by
  have lt : ∀ x, col4 z0 z1 z2 z3 z4 x ≠ 0 → z0 ≤ x ∧ x < w.heap.size := fun x hx => by
    unfold col4 at hx
    split at hx
    · exact absurd rfl hx
    · by_cases hz : x < z4
      · omega
      · rw [if_neg (by omega), if_neg (by omega), if_neg (by omega), if_neg hz] at hx
        exact absurd rfl hx
  refine ⟨by omega, lt, h1.imp (fun x hx => ?_) (fun x hx => (lt x (by omega)).2), h2.imp (fun x hx => ?_) (fun x hx => (lt x (by omega)).2), h3.imp (fun x hx => ?_) (fun x hx => (lt x (by omega)).2), h4.imp (fun x hx => ?_) (fun x hx => (lt x (by omega)).2)⟩
  · have := e1 x hx
    show col4 _ _ _ _ _ _ = _
    unfold col4
    rw [if_neg (by omega), if_pos (by omega)]
  · have := e2 x hx
    show col4 _ _ _ _ _ _ = _
    unfold col4
    rw [if_neg (by omega), if_neg (by omega), if_pos (by omega)]
  · have := e3 x hx
    show col4 _ _ _ _ _ _ = _
    unfold col4
    rw [if_neg (by omega), if_neg (by omega), if_neg (by omega), if_pos (by omega)]
  · have := e4 x hx
    show col4 _ _ _ _ _ _ = _
    unfold col4
    rw [if_neg (by omega), if_neg (by omega), if_neg (by omega), if_neg (by omega), if_pos (by omega)]
/-- A block that is nobody's was written. -/
theorem QuadC.grown (h : QuadC base w c a b t u sa sb S T) {v : Option Nat} (hg : w.grownBy w' v) (hv : ∀ g, v = some g → c g = 0) : QuadC base w' c a b t u sa sb S T :=
  h.same ⟨hg.size, fun x hx (hc : c x ≠ 0) => hg.block x hx (fun e => hc (hv x e.symm))⟩
theorem below_grown {B : Nat} {w0 : World} (h : Below B w0 w) {v : Option Nat} (hg : w.grownBy w' v) (hB : B ≤ w.heap.size) (hv : ∀ g, v = some g → B ≤ g) : Below B w0 w' := h.grown hg hB hv
def stepT (S : TSt) (g : Int) : TSt := if 1000 < S.way.length + sumM S g 2 then S else twS S g 2
theorem stepT_ok {E T g : Int} (h : TwoT E T S) (hE : 1 ≤ E) (hg : 1 ≤ g ∧ g ≤ 20) (hT : T ≤ 1000000) : TwoT E (T + 20) (stepT S g) := by
  obtain ⟨_, _, h3⟩ := h.tick hE (g := g) (by omega) hT
  unfold stepT
  by_cases e : 1000 < S.way.length + sumM S g 2
  · rw [if_pos e]
    exact h.later (by omega)
  · rw [if_neg e]
    exact (h3 (by omega)).1.later (by omega)
/-- A tick of a town of two, whether its way is full or not. -/
theorem tstep_ok {E T g : Int} {f : Nat → Prop} (w : World) (h : TRep w t S f) (ok : TwoT E T S) (hE : 1 ≤ E) (hg : 1 ≤ g ∧ g ≤ 20) (hT : T ≤ 1000000) :
    Calls Tryz.prog 23 #[.pointer (some ⟨t, 0, none⟩), .int .i64 g] w fun e w' => (∃ v, e = .returned v) ∧ ∃ f', TRep w' t (stepT S g) f' ∧ (∀ x, f' x → f x ∨ (w.heap.size ≤ x ∧ x < w'.heap.size)) ∧ Kept f w w' := by
  obtain ⟨h1, h2, _⟩ := ok.tick hE (g := g) (by omega) hT
  have hT' := ttick_ok w h h1
  rw [h2] at hT'
  refine hT'.mono fun e w' hp => ?_
  rcases hp with ⟨hf, he, hb⟩ | ⟨hf, A', c', f', he, _, hr, hf', hk⟩
  · refine ⟨⟨_, he⟩, f, ?_, fun x hx => .inl hx, Kept.of_below hb⟩
    unfold stepT
    rw [if_pos hf]
    exact h.below hb
  · refine ⟨⟨_, he⟩, f', ?_, fun x hx => (hf' x hx).elim .inl (fun h => .inr ⟨h, TRep.lt hr x hx⟩), hk⟩
    unfold stepT
    rw [if_neg (by omega)]
    exact hr
end Go.Proofs.YtpomdnglknbanaaGreat

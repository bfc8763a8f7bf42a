
/-
  hwkeep's roomy and spoil at peers.
-/
import Derived.Test.YtpomdnglknbanaaGreatVr
import Derived.Test.YtpomdnglknbanaaGreatMp
import Derived.Deep.DeepCutAuto
set_option linter.unusedSimpArgs false
set_option linter.unusedVariables false
namespace Go.Proofs.YtpomdnglknbanaaGreat
open Go Go.RowKit
theorem own_wrS {w : World} {base e s n c : Nat} {A : Option Addr} {xs : List Value} (h : w.ownsRow base e s (.slice A n c) n xs) : Wr w base A (c * s) := by
  rcases h.2 with ⟨h1, h0⟩ | ⟨g, c', cur, h1, hbg, hg, hnc, hcm, hcs, _⟩
  · simp only [Value.slice.injEq] at h1
    obtain ⟨rfl, _, rfl⟩ := h1
    exact ⟨fun _ => by simp, (fun ad ha => by cases ha)⟩
  · simp only [Value.slice.injEq] at h1
    obtain ⟨rfl, _, rfl⟩ := h1
    refine ⟨(fun h => by cases h), fun ad ha => ?_⟩
    cases ha
    have k1 : ∀ o, w.cell? ⟨g, o, none⟩ = cur[o]? := fun o => by simp [World.cell?, hg]
    have k2 : ∀ o, w.frozen? ⟨g, o, none⟩ = false := fun o => by simp [World.frozen?, hg]
    refine ⟨g, rfl, hbg, (Array.getElem?_eq_some_iff.1 hg).1, fun i hi => ?_, k2⟩
    rw [k1, Array.getElem?_eq_getElem (by omega)]
    exact ⟨_, rfl⟩
theorem cell_ne {w : World} {b g : Nat} (h : b ≠ g) (o i : Nat) (v : Value) : (w.setCell ⟨g, o, none⟩ v).cell? ⟨b, i, none⟩ = w.cell? ⟨b, i, none⟩ := World.cell?_setCell_other _ _ _ _ (fun e => h (by injection e with e _; exact e.symm))
theorem cell_off {w : World} {g o i : Nat} (h : o ≠ i) (v : Value) : (w.setCell ⟨g, o, none⟩ v).cell? ⟨g, i, none⟩ = w.cell? ⟨g, i, none⟩ := World.cell?_setCell_other _ _ _ _ (fun e => h (by injection e with _ e))
theorem own_far {w : World} {base e s n c g j : Nat} {xs : List Value} (h : w.ownsRow base e s (.slice (some ⟨g, 0, none⟩) n c) n xs) (hj : xs.length ≤ j) (v : Value) : (w.setCell ⟨g, j, none⟩ v).ownsRow base e s (.slice (some ⟨g, 0, none⟩) n c) n xs := by
  have := own_setV h j v
  rwa [List.set_eq_of_length_le hj] at this
set_option maxRecDepth 100000 in
set_option maxHeartbeats 8000000 in
theorem spoilP_ok (A : Option Addr) (n c base : Nat) (w : World) (h : Wr w base A (c * 7)) (hn : n ≤ c) (hc : c ≤ maxLen) (hb : base ≤ w.heap.size) :
    Calls Tryz.prog 40 #[.slice A n c, .agg #[.string ⟨#[115, 112, 111, 105, 108, 116]⟩, .int .i64 0, .int .i64 0, .int .i64 0, .int .i64 0, .slice none 0 0, .int .i64 0]] w fun e w' => (∃ v, e = .returned v) ∧ w.grownBy w' (Value.slice A n c).ownBlock := by
  unfold maxLen at hc
  have nc : (n : Int) ≤ c := by omega
  have qa := alloc_cells
  have qf := alloc_frozens
  rcases A with _ | ad
  · have c0 : c = 0 := by have := h.1 rfl; omega
    subst c0
    obtain rfl : n = 0 := by omega
    clear h
    go_enter Tryz.func40, Tryz.ntmps40
    go_wp2_with fail
    go_loopw [11] (fun i wr => i = .int .i64 0 ∧ w.grownBy wr none) (fun i _ => 0)
    case atStart => exact ⟨rfl, World.grownBy_alloc w _ none⟩
    case round =>
      obtain ⟨rfl, hg⟩ := hrel
      go_wp2_with fail
      go_end0
      exact ⟨⟨_, rfl⟩, hg⟩
  · obtain ⟨g, rfl, hbg, hgl, hcell, hfz⟩ := h.2 ad rfl
    have HC := Lib.hid hcell
    have HF := Lib.hid hfz
    clear h hcell hfz
    go_enter Tryz.func40, Tryz.ntmps40
    go_wp2_with fail
    have gr0 : w.grownBy (w.alloc (.cells #[.string ⟨#[115, 112, 111, 105, 108, 116]⟩, .int .i64 0, .int .i64 0, .int .i64 0, .int .i64 0, .slice none 0 0, .int .i64 0] 90)) (some g) := World.grownBy_alloc w _ _
    have bc : ∀ i, (w.alloc (.cells #[.string ⟨#[115, 112, 111, 105, 108, 116]⟩, .int .i64 0, .int .i64 0, .int .i64 0, .int .i64 0, .slice none 0 0, .int .i64 0] 90)).cell? ⟨w.heap.size, i, none⟩ = (#[.string ⟨#[115, 112, 111, 105, 108, 116]⟩, .int .i64 0, .int .i64 0, .int .i64 0, .int .i64 0, .slice none 0 0, .int .i64 0] : Array Value)[i]? := fun i => World.cell?_alloc_new _ _ _ i
    have wr0 : Wr (w.alloc (.cells #[.string ⟨#[115, 112, 111, 105, 108, 116]⟩, .int .i64 0, .int .i64 0, .int .i64 0, .int .i64 0, .slice none 0 0, .int .i64 0] 90)) base (some ⟨g, 0, none⟩) (c * 7) := by
      refine Wr.same (w := w) ⟨(fun h => by cases h), fun ad ha => ?_⟩ (by simp) (fun g' off e => ?_)
      · cases ha
        exact ⟨g, rfl, hbg, hgl, HC.out, HF.out⟩
      · injection e with e
        injection e with e1 e2
        subst e1
        exact Below.heap_alloc w _ _ hgl
    have z0 : w.heap.size < (w.alloc (.cells #[.string ⟨#[115, 112, 111, 105, 108, 116]⟩, .int .i64 0, .int .i64 0, .int .i64 0, .int .i64 0, .slice none 0 0, .int .i64 0] 90)).heap.size := by simp
    generalize w.alloc (.cells #[.string ⟨#[115, 112, 111, 105, 108, 116]⟩, .int .i64 0, .int .i64 0, .int .i64 0, .int .i64 0, .slice none 0 0, .int .i64 0] 90) = w1 at gr0 bc wr0 z0 ⊢
    obtain ⟨bx, hbx⟩ : ∃ q, w.heap.size = q := ⟨_, rfl⟩
    have HBx := Lib.hid hbx
    have hgb : g < bx := by omega
    rw [hbx] at bc z0 ⊢
    have G0 := Lib.hid gr0
    have BC := Lib.hid bc
    have W0 := Lib.hid wr0
    clear gr0 bc wr0 hbx qa qf HC HF
    go_loopw [11] (fun i wr => ∃ k : Nat, k ≤ c ∧ i = .int .i64 k ∧ w.grownBy wr (some g) ∧ Wr wr base (some ⟨g, 0, none⟩) (c * 7) ∧ (∀ i, wr.cell? ⟨bx, i, none⟩ = (#[.string ⟨#[115, 112, 111, 105, 108, 116]⟩, .int .i64 0, .int .i64 0, .int .i64 0, .int .i64 0, .slice none 0 0, .int .i64 0] : Array Value)[i]?) ∧ bx < wr.heap.size) (fun i _ => c - (intOf i).toNat)
    case atStart => exact ⟨0, Nat.zero_le _, rfl, G0.out, W0.out, BC.out, z0⟩
    case round =>
      obtain ⟨wx, rfl⟩ : ∃ q : World, q = wr := ⟨_, rfl⟩
      clear G0 W0 BC z0
      obtain ⟨k, hk, rfl, hg, hwr, hbc, hbl⟩ := hrel
      have HG := Lib.hid hg
      have HW := Lib.hid hwr
      have HB := Lib.hid hbc
      by_cases hlt : k < c
      · obtain ⟨g', e, _, hl2, hcell, hfz⟩ := hwr.2 _ rfl
        injection e with e _
        subst e
        obtain ⟨u0, h0⟩ := hcell (k * 7) (by omega)
        obtain ⟨u1, h1⟩ := hcell (k * 7 + 1) (by omega)
        obtain ⟨u2, h2⟩ := hcell (k * 7 + 2) (by omega)
        obtain ⟨u3, h3⟩ := hcell (k * 7 + 3) (by omega)
        obtain ⟨u4, h4⟩ := hcell (k * 7 + 4) (by omega)
        obtain ⟨u5, h5⟩ := hcell (k * 7 + 5) (by omega)
        obtain ⟨u6, h6⟩ := hcell (k * 7 + 6) (by omega)
        have x0 : wx.cell? ⟨bx, 0, none⟩ = some (.string ⟨#[115, 112, 111, 105, 108, 116]⟩) := hbc 0
        have x1 : wx.cell? ⟨bx, 1, none⟩ = some (.int .i64 0) := hbc 1
        have x2 : wx.cell? ⟨bx, 2, none⟩ = some (.int .i64 0) := hbc 2
        have x3 : wx.cell? ⟨bx, 3, none⟩ = some (.int .i64 0) := hbc 3
        have x4 : wx.cell? ⟨bx, 4, none⟩ = some (.int .i64 0) := hbc 4
        have x5 : wx.cell? ⟨bx, 5, none⟩ = some (.slice none 0 0) := hbc 5
        have x6 : wx.cell? ⟨bx, 6, none⟩ = some (.int .i64 0) := hbc 6
        have kl : (k : Int) < c := by omega
        have kw : IntKind.i64.wrap ((k : Int) + 1) = (k : Int) + 1 := IntWalk.i64_in _ (by omega)
        clear hg hwr hbc hcell
        go_wp2_with fail
        go_roundw
        case rel => exact ⟨k + 1, by omega, by go_num, grown_setV (grown_setV (grown_setV (grown_setV (grown_setV (grown_setV (grown_setV HG.out _ _) _ _) _ _) _ _) _ _) _ _) _ _, ((((((HW.out.setCell _ _ _).setCell _ _ _).setCell _ _ _).setCell _ _ _).setCell _ _ _).setCell _ _ _).setCell _ _ _, fun i => by simp only [cell_ne (show bx ≠ g by omega)]; exact HB.out i, by simpa using hbl⟩
        case measure => simp [intOf]; omega
      · obtain rfl : c = k := by omega
        clear hg hwr hbc
        go_wp2_with fail
        go_end0
        exact ⟨⟨_, rfl⟩, HG.out⟩
/-- The values that lie in a row of peers, as they are. -/
theorem prow_vals {w : World} {A : Option Addr} {n : Nat} {L : List Peer} {f : Nat → Prop} (h : PRow w A n L f) : ∃ xs : List Value, xs.length = n * 7 ∧ (∀ ad, A = some ad → ∀ j u, xs[j]? = some u → w.cell? (ad.add j) = some u) ∧ (∀ u ∈ xs, u.oneCell' = true) ∧
    ∀ k, k < n → ∃ B cc, (∀ i, i < 7 → xs[k * 7 + i]? = [Value.string (L.getD k default).id, .int .i64 (L.getD k default).inc, .int .i64 (L.getD k default).seq, .int .i64 (L.getD k default).drops, .int .i64 (L.getD k default).cap, .slice B (L.getD k default).vals.length cc, .int .i64 (L.getD k default).last][i]?) ∧ InRow w B (L.getD k default).vals.length cc (L.getD k default).vals := by
  rcases Nat.eq_zero_or_pos n with h0 | h0
  · subst h0
    exact ⟨[], rfl, fun ad _ j u hu => by simp at hu, fun u hu => by simp at hu, fun k hk => absurd hk (by omega)⟩
  obtain ⟨b, off, rfl, _, _, hp⟩ := h.2 h0
  have key : ∀ k, k < n → ∃ B cc, (∀ i, i < 7 → w.cell? ⟨b, off + k * 7 + i, none⟩ = [Value.string (L.getD k default).id, .int .i64 (L.getD k default).inc, .int .i64 (L.getD k default).seq, .int .i64 (L.getD k default).drops, .int .i64 (L.getD k default).cap, .slice B (L.getD k default).vals.length cc, .int .i64 (L.getD k default).last][i]?) ∧ InRow w B (L.getD k default).vals.length cc (L.getD k default).vals := fun k hk => by
    obtain ⟨k0, k1, k2, k3, k4, k6, B, cc, k5, hin, _⟩ := hp k hk
    refine ⟨B, cc, fun i hi => ?_, hin⟩
    rcases (show i = 0 ∨ i = 1 ∨ i = 2 ∨ i = 3 ∨ i = 4 ∨ i = 5 ∨ i = 6 by omega) with rfl | rfl | rfl | rfl | rfl | rfl | rfl
    · exact k0
    · exact k1
    · exact k2
    · exact k3
    · exact k4
    · exact k5
    · exact k6
  have val : ∀ j, j < n * 7 → ∃ u, w.cell? ⟨b, off + j, none⟩ = some u ∧ u.oneCell' = true := fun j hj => by
    obtain ⟨B, cc, hc, _⟩ := key (j / 7) (by omega)
    have := hc (j % 7) (Nat.mod_lt _ (by omega))
    rw [show off + j / 7 * 7 + j % 7 = off + j by omega] at this
    rw [this]
    have hm := Nat.mod_lt j (show 0 < 7 by omega)
    rcases (show j % 7 = 0 ∨ j % 7 = 1 ∨ j % 7 = 2 ∨ j % 7 = 3 ∨ j % 7 = 4 ∨ j % 7 = 5 ∨ j % 7 = 6 by omega) with e | e | e | e | e | e | e <;> rw [e] <;> exact ⟨_, rfl, rfl⟩
  refine ⟨(List.range (n * 7)).map fun j => (w.cell? ⟨b, off + j, none⟩).getD undef, by simp, fun ad ha j u hu => ?_, fun u hu => ?_, fun k hk => ?_⟩
  · injection ha with ha
    subst ha
    rw [Go.WideShapes.add_plain]
    have hj : j < n * 7 := by have := (List.getElem?_eq_some_iff.1 hu).1; simpa using this
    obtain ⟨v, hv, _⟩ := val j hj
    simp [hj, hv] at hu
    rw [hv, hu]
  · obtain ⟨j, hj, rfl⟩ := List.mem_map.1 hu
    obtain ⟨v, hv, h1⟩ := val j (List.mem_range.1 hj)
    rw [hv]
    exact h1
  · obtain ⟨B, cc, hc, hin⟩ := key k hk
    refine ⟨B, cc, fun i hi => ?_, hin⟩
    have hj : k * 7 + i < n * 7 := by omega
    have := hc i hi
    rw [show off + k * 7 + i = off + (k * 7 + i) by omega] at this
    obtain ⟨v, hv, _⟩ := val (k * 7 + i) hj
    rw [← this]
    simp [hj, hv]
def markL : List Value := [.string ⟨#[]⟩, .int .i64 0, .int .i64 0, .int .i64 0, .int .i64 0, .slice none 0 0, .int .i64 77]
end Go.Proofs.YtpomdnglknbanaaGreat

/-
  hwkeep's roomy and spoil at peers.
-/
import Derived.Test.YtpomdnglknbanaaVr
import Derived.Test.YtpomdnglknbanaaMp
import Derived.Deep.DeepCutAuto
set_option linter.unusedSimpArgs false
set_option linter.unusedVariables false
namespace Go.Proofs.Ytpomdnglknbanaa
open Go Go.RowKit
theorem own_wrS {w : World} {base e s n c : Nat} {A : Option Addr} {xs : List Value} (h : w.ownsRow base e s (.slice A n c) n xs) : Wr w base A (c * s) := by
  rcases h.2 with ⟨h1, h0⟩ | ⟨g, c', cur, h1, hbg, hg, hnc, hcm, hcs, _⟩
  · simp only [Value.slice.injEq] at h1
    obtain ⟨rfl, _, rfl⟩ := h1
    exact ⟨fun _ => by simp, (fun ad ha => by cases ha)⟩
  · simp only [Value.slice.injEq] at h1
    obtain ⟨rfl, _, rfl⟩ := h1
    refine ⟨(fun h => by cases h), fun ad ha => ?_⟩
    cases ha
    have k1 : ∀ o, w.cell? ⟨g, o, none⟩ = cur[o]? := fun o => by simp [World.cell?, hg]
    have k2 : ∀ o, w.frozen? ⟨g, o, none⟩ = false := fun o => by simp [World.frozen?, hg]
    refine ⟨g, rfl, hbg, (Array.getElem?_eq_some_iff.1 hg).1, fun i hi => ?_, k2⟩
    rw [k1, Array.getElem?_eq_getElem (by omega)]
    exact ⟨_, rfl⟩
theorem cell_ne {w : World} {b g : Nat} (h : b ≠ g) (o i : Nat) (v : Value) : (w.setCell ⟨g, o, none⟩ v).cell? ⟨b, i, none⟩ = w.cell? ⟨b, i, none⟩ := World.cell?_setCell_other _ _ _ _ (fun e => h (by injection e with e _; exact e.symm))
theorem cell_off {w : World} {g o i : Nat} (h : o ≠ i) (v : Value) : (w.setCell ⟨g, o, none⟩ v).cell? ⟨g, i, none⟩ = w.cell? ⟨g, i, none⟩ := World.cell?_setCell_other _ _ _ _ (fun e => h (by injection e with _ e))
theorem own_far {w : World} {base e s n c g j : Nat} {xs : List Value} (h : w.ownsRow base e s (.slice (some ⟨g, 0, none⟩) n c) n xs) (hj : xs.length ≤ j) (v : Value) : (w.setCell ⟨g, j, none⟩ v).ownsRow base e s (.slice (some ⟨g, 0, none⟩) n c) n xs := by
  have := own_setV h j v
  rwa [List.set_eq_of_length_le hj] at this
set_option maxRecDepth 100000 in
set_option maxHeartbeats 8000000 in
theorem spoilP_ok (A : Option Addr) (n c base : Nat) (w : World) (h : Wr w base A (c * 7)) (hn : n ≤ c) (hc : c ≤ maxLen) (hb : base ≤ w.heap.size) :
    Calls Try.prog 112 #[.slice A n c, .agg #[.string ⟨#[115, 112, 111, 105, 108, 116]⟩, .int .i64 0, .int .i64 0, .int .i64 0, .int .i64 0, .slice none 0 0, .int .i64 0]] w fun e w' => (∃ v, e = .returned v) ∧ w.grownBy w' (Value.slice A n c).ownBlock := by
  unfold maxLen at hc
  have nc : (n : Int) ≤ c := by omega
  have qa := alloc_cells
  have qf := alloc_frozens
  rcases A with _ | ad
  · have c0 : c = 0 := by have := h.1 rfl; omega
    subst c0
    obtain rfl : n = 0 := by omega
    clear h
    go_enter Try.func112, Try.ntmps112
    go_wp2_with fail
    go_loopw [11] (fun i wr => i = .int .i64 0 ∧ w.grownBy wr none) (fun i _ => 0)
    case atStart => exact ⟨rfl, World.grownBy_alloc w _ none⟩
    case round =>
      obtain ⟨rfl, hg⟩ := hrel
      go_wp2_with fail
      go_end0
      exact ⟨⟨_, rfl⟩, hg⟩
  · obtain ⟨g, rfl, hbg, hgl, hcell, hfz⟩ := h.2 ad rfl
    have HC := Lib.hid hcell
    have HF := Lib.hid hfz
    clear h hcell hfz
    go_enter Try.func112, Try.ntmps112
    go_wp2_with fail
    have gr0 : w.grownBy (w.alloc (.cells #[.string ⟨#[115, 112, 111, 105, 108, 116]⟩, .int .i64 0, .int .i64 0, .int .i64 0, .int .i64 0, .slice none 0 0, .int .i64 0] 56)) (some g) := World.grownBy_alloc w _ _
    have bc : ∀ i, (w.alloc (.cells #[.string ⟨#[115, 112, 111, 105, 108, 116]⟩, .int .i64 0, .int .i64 0, .int .i64 0, .int .i64 0, .slice none 0 0, .int .i64 0] 56)).cell? ⟨w.heap.size, i, none⟩ = (#[.string ⟨#[115, 112, 111, 105, 108, 116]⟩, .int .i64 0, .int .i64 0, .int .i64 0, .int .i64 0, .slice none 0 0, .int .i64 0] : Array Value)[i]? := fun i => World.cell?_alloc_new _ _ _ i
    have wr0 : Wr (w.alloc (.cells #[.string ⟨#[115, 112, 111, 105, 108, 116]⟩, .int .i64 0, .int .i64 0, .int .i64 0, .int .i64 0, .slice none 0 0, .int .i64 0] 56)) base (some ⟨g, 0, none⟩) (c * 7) := by
      refine Wr.same (w := w) ⟨(fun h => by cases h), fun ad ha => ?_⟩ (by simp) (fun g' off e => ?_)
      · cases ha
        exact ⟨g, rfl, hbg, hgl, HC.out, HF.out⟩
      · injection e with e
        injection e with e1 e2
        subst e1
        exact Below.heap_alloc w _ _ hgl
    have z0 : w.heap.size < (w.alloc (.cells #[.string ⟨#[115, 112, 111, 105, 108, 116]⟩, .int .i64 0, .int .i64 0, .int .i64 0, .int .i64 0, .slice none 0 0, .int .i64 0] 56)).heap.size := by simp
    generalize w.alloc (.cells #[.string ⟨#[115, 112, 111, 105, 108, 116]⟩, .int .i64 0, .int .i64 0, .int .i64 0, .int .i64 0, .slice none 0 0, .int .i64 0] 56) = w1 at gr0 bc wr0 z0 ⊢
    obtain ⟨bx, hbx⟩ : ∃ q, w.heap.size = q := ⟨_, rfl⟩
    have HBx := Lib.hid hbx
    have hgb : g < bx := by omega
    rw [hbx] at bc z0 ⊢
    have G0 := Lib.hid gr0
    have BC := Lib.hid bc
    have W0 := Lib.hid wr0
    clear gr0 bc wr0 hbx qa qf HC HF
    go_loopw [11] (fun i wr => ∃ k : Nat, k ≤ c ∧ i = .int .i64 k ∧ w.grownBy wr (some g) ∧ Wr wr base (some ⟨g, 0, none⟩) (c * 7) ∧ (∀ i, wr.cell? ⟨bx, i, none⟩ = (#[.string ⟨#[115, 112, 111, 105, 108, 116]⟩, .int .i64 0, .int .i64 0, .int .i64 0, .int .i64 0, .slice none 0 0, .int .i64 0] : Array Value)[i]?) ∧ bx < wr.heap.size) (fun i _ => c - (intOf i).toNat)
    case atStart => exact ⟨0, Nat.zero_le _, rfl, G0.out, W0.out, BC.out, z0⟩
    case round =>
      obtain ⟨wx, rfl⟩ : ∃ q : World, q = wr := ⟨_, rfl⟩
      clear G0 W0 BC z0
      obtain ⟨k, hk, rfl, hg, hwr, hbc, hbl⟩ := hrel
      have HG := Lib.hid hg
      have HW := Lib.hid hwr
      have HB := Lib.hid hbc
      by_cases hlt : k < c
      · obtain ⟨g', e, _, hl2, hcell, hfz⟩ := hwr.2 _ rfl
        injection e with e _
        subst e
        obtain ⟨u0, h0⟩ := hcell (k * 7) (by omega)
        obtain ⟨u1, h1⟩ := hcell (k * 7 + 1) (by omega)
        obtain ⟨u2, h2⟩ := hcell (k * 7 + 2) (by omega)
        obtain ⟨u3, h3⟩ := hcell (k * 7 + 3) (by omega)
        obtain ⟨u4, h4⟩ := hcell (k * 7 + 4) (by omega)
        obtain ⟨u5, h5⟩ := hcell (k * 7 + 5) (by omega)
        obtain ⟨u6, h6⟩ := hcell (k * 7 + 6) (by omega)
        have x0 : wx.cell? ⟨bx, 0, none⟩ = some (.string ⟨#[115, 112, 111, 105, 108, 116]⟩) := hbc 0
        have x1 : wx.cell? ⟨bx, 1, none⟩ = some (.int .i64 0) := hbc 1
        have x2 : wx.cell? ⟨bx, 2, none⟩ = some (.int .i64 0) := hbc 2
        have x3 : wx.cell? ⟨bx, 3, none⟩ = some (.int .i64 0) := hbc 3
        have x4 : wx.cell? ⟨bx, 4, none⟩ = some (.int .i64 0) := hbc 4
        have x5 : wx.cell? ⟨bx, 5, none⟩ = some (.slice none 0 0) := hbc 5
        have x6 : wx.cell? ⟨bx, 6, none⟩ = some (.int .i64 0) := hbc 6
        have kl : (k : Int) < c := by omega
        have kw : IntKind.i64.wrap ((k : Int) + 1) = (k : Int) + 1 := IntWalk.i64_in _ (by omega)
        clear hg hwr hbc hcell
        go_wp2_with fail
        go_roundw
        case rel => exact ⟨k + 1, by omega, by go_num, grown_setV (grown_setV (grown_setV (grown_setV (grown_setV (grown_setV (grown_setV HG.out _ _) _ _) _ _) _ _) _ _) _ _) _ _, ((((((HW.out.setCell _ _ _).setCell _ _ _).setCell _ _ _).setCell _ _ _).setCell _ _ _).setCell _ _ _).setCell _ _ _, fun i => by simp only [cell_ne (show bx ≠ g by omega)]; exact HB.out i, by simpa using hbl⟩
        case measure => simp [intOf]; omega
      · obtain rfl : c = k := by omega
        clear hg hwr hbc
        go_wp2_with fail
        go_end0
        exact ⟨⟨_, rfl⟩, HG.out⟩
/-- The values that lie in a row of peers, as they are. -/
theorem prow_vals {w : World} {A : Option Addr} {n : Nat} {L : List Peer} {f : Nat → Prop} (h : PRow w A n L f) : ∃ xs : List Value, xs.length = n * 7 ∧ (∀ ad, A = some ad → ∀ j u, xs[j]? = some u → w.cell? (ad.add j) = some u) ∧ (∀ u ∈ xs, u.oneCell' = true) ∧
    ∀ k, k < n → ∃ B cc, (∀ i, i < 7 → xs[k * 7 + i]? = [Value.string (L.getD k default).id, .int .i64 (L.getD k default).inc, .int .i64 (L.getD k default).seq, .int .i64 (L.getD k default).drops, .int .i64 (L.getD k default).cap, .slice B (L.getD k default).vals.length cc, .int .i64 (L.getD k default).last][i]?) ∧ InRow w B (L.getD k default).vals.length cc (L.getD k default).vals := by
  rcases Nat.eq_zero_or_pos n with h0 | h0
  · subst h0
    exact ⟨[], rfl, fun ad _ j u hu => by simp at hu, fun u hu => by simp at hu, fun k hk => absurd hk (by omega)⟩
  obtain ⟨b, off, rfl, _, _, hp⟩ := h.2 h0
  have key : ∀ k, k < n → ∃ B cc, (∀ i, i < 7 → w.cell? ⟨b, off + k * 7 + i, none⟩ = [Value.string (L.getD k default).id, .int .i64 (L.getD k default).inc, .int .i64 (L.getD k default).seq, .int .i64 (L.getD k default).drops, .int .i64 (L.getD k default).cap, .slice B (L.getD k default).vals.length cc, .int .i64 (L.getD k default).last][i]?) ∧ InRow w B (L.getD k default).vals.length cc (L.getD k default).vals := fun k hk => by
    obtain ⟨k0, k1, k2, k3, k4, k6, B, cc, k5, hin, _⟩ := hp k hk
    refine ⟨B, cc, fun i hi => ?_, hin⟩
    rcases (show i = 0 ∨ i = 1 ∨ i = 2 ∨ i = 3 ∨ i = 4 ∨ i = 5 ∨ i = 6 by omega) with rfl | rfl | rfl | rfl | rfl | rfl | rfl
    · exact k0
    · exact k1
    · exact k2
    · exact k3
    · exact k4
    · exact k5
    · exact k6
  have val : ∀ j, j < n * 7 → ∃ u, w.cell? ⟨b, off + j, none⟩ = some u ∧ u.oneCell' = true := fun j hj => by
    obtain ⟨B, cc, hc, _⟩ := key (j / 7) (by omega)
    have := hc (j % 7) (Nat.mod_lt _ (by omega))
    rw [show off + j / 7 * 7 + j % 7 = off + j by omega] at this
    rw [this]
    have hm := Nat.mod_lt j (show 0 < 7 by omega)
    rcases (show j % 7 = 0 ∨ j % 7 = 1 ∨ j % 7 = 2 ∨ j % 7 = 3 ∨ j % 7 = 4 ∨ j % 7 = 5 ∨ j % 7 = 6 by omega) with e | e | e | e | e | e | e <;> rw [e] <;> exact ⟨_, rfl, rfl⟩
  refine ⟨(List.range (n * 7)).map fun j => (w.cell? ⟨b, off + j, none⟩).getD undef, by simp, fun ad ha j u hu => ?_, fun u hu => ?_, fun k hk => ?_⟩
  · injection ha with ha
    subst ha
    rw [Go.WideShapes.add_plain]
    have hj : j < n * 7 := by have := (List.getElem?_eq_some_iff.1 hu).1; simpa using this
    obtain ⟨v, hv, _⟩ := val j hj
    simp [hj, hv] at hu
    rw [hv, hu]
  · obtain ⟨j, hj, rfl⟩ := List.mem_map.1 hu
    obtain ⟨v, hv, h1⟩ := val j (List.mem_range.1 hj)
    rw [hv]
    exact h1
  · obtain ⟨B, cc, hc, hin⟩ := key k hk
    refine ⟨B, cc, fun i hi => ?_, hin⟩
    have hj : k * 7 + i < n * 7 := by omega
    have := hc i hi
    rw [show off + k * 7 + i = off + (k * 7 + i) by omega] at this
    obtain ⟨v, hv, _⟩ := val (k * 7 + i) hj
    rw [← this]
    simp [hj, hv]
def markL : List Value := [.string ⟨#[]⟩, .int .i64 0, .int .i64 0, .int .i64 0, .int .i64 0, .slice none 0 0, .int .i64 77]
set_option maxRecDepth 100000 in
set_option maxHeartbeats 16000000 in
theorem roomyP_ok (A : Option Addr) (n c : Nat) (xs : List Value) (w : World) (hx : xs.length = n * 7) (hcl : ∀ ad, A = some ad → ∀ j u, xs[j]? = some u → ad.block < w.heap.size ∧ w.cell? (ad.add j) = some u) (h1 : ∀ u ∈ xs, u.oneCell' = true) (hnil : A = none → n = 0 ∧ c = 0) (hb : n * 80 ≤ 140737488351232) :
    Calls Try.prog 111 #[.slice A n c, .agg #[.string ⟨#[]⟩, .int .i64 0, .int .i64 0, .int .i64 0, .int .i64 0, .slice none 0 0, .int .i64 77]] w fun e w' => ∃ g, e = .returned (.slice (some ⟨g, 0, none⟩) n (n + 3)) ∧ w'.ownsRow w.heap.size 56 7 (.slice (some ⟨g, 0, none⟩) n (n + 3)) n xs ∧ (∀ i, i < 3 → ∀ j, j < 7 → w'.cell? ⟨g, (n + i) * 7 + j, none⟩ = markL[j]?) ∧ Below w.heap.size w w' := by
  have n3 : IntKind.i64.wrap ((n : Int) + 3) = (n : Int) + 3 := IntWalk.i64_in _ (by omega)
  have C3 := Lib.hid (show (n : Int) + 3 = ((n + 3 : Nat) : Int) by omega)
  obtain ⟨i0, hi, hz0, hz1, hz2⟩ := info_parts info_peer
  have HCl := Lib.hid hcl
  have H1 := Lib.hid h1
  have HNil := Lib.hid hnil
  have HX := Lib.hid hx
  have qa := alloc_cells
  have qf := alloc_frozens
  clear hcl h1 hnil hx
  go_enter Try.func111, Try.ntmps111
  go_wp2_with (at_make; refine wpList_make_own _ rfl _ _ _ rfl w.heap.size 56 i0 _ 7 info_peers hi hz0 hz1 .i64 .i64 _ (n + 3) rfl rfl C3.out (by rw [hz2]; omega) (by unfold maxLen; omega) (by simp) ?_)
  intro w1 own1 gr1
  have b0 : Below w.heap.size w (w.alloc (.cells #[.string ⟨#[]⟩, .int .i64 0, .int .i64 0, .int .i64 0, .int .i64 0, .slice none 0 0, .int .i64 77] 56)) := (Below.refl _ _).alloc (Nat.le_refl _) _
  have bc0 : ∀ i, (w.alloc (.cells #[.string ⟨#[]⟩, .int .i64 0, .int .i64 0, .int .i64 0, .int .i64 0, .slice none 0 0, .int .i64 77] 56)).cell? ⟨w.heap.size, i, none⟩ = (#[.string ⟨#[]⟩, .int .i64 0, .int .i64 0, .int .i64 0, .int .i64 0, .slice none 0 0, .int .i64 77] : Array Value)[i]? := fun i => World.cell?_alloc_new _ _ _ i
  have z0 : (w.alloc (.cells #[.string ⟨#[]⟩, .int .i64 0, .int .i64 0, .int .i64 0, .int .i64 0, .slice none 0 0, .int .i64 77] 56)).heap.size = w.heap.size + 1 := by simp
  generalize w.alloc (.cells #[.string ⟨#[]⟩, .int .i64 0, .int .i64 0, .int .i64 0, .int .i64 0, .slice none 0 0, .int .i64 77] 56) = w0 at b0 bc0 z0 own1 gr1 ⊢
  have z1 := gr1.size
  have b1 : Below w.heap.size w w1 := ⟨gr1.os.trans b0.os, gr1.tape.trans b0.tape, gr1.output.trans b0.output, by omega, fun x hx => (gr1.block x (by omega) (by simp)).trans (b0.block x hx)⟩
  have bc1 : ∀ i, w1.cell? ⟨w.heap.size, i, none⟩ = (#[.string ⟨#[]⟩, .int .i64 0, .int .i64 0, .int .i64 0, .int .i64 0, .slice none 0 0, .int .i64 77] : Array Value)[i]? := fun i => (World.cell?_of_block (a := ⟨w.heap.size, i, none⟩) (gr1.block w.heap.size (by omega) (by simp))).trans (bc0 i)
  have HCl1 := Lib.hid (show ∀ ad, A = some ad → ∀ j u, xs[j]? = some u → w1.cell? (ad.add j) = some u from fun ad hA j u hu => (b1.cell (p := ad.add j) (by have h := (HCl.out ad hA j u hu).1; unfold Go.Addr.add; split <;> exact h)).trans (HCl.out ad hA j u hu).2)
  have O1 := Lib.hid own1
  have B1 := Lib.hid b1
  have BC1 := Lib.hid bc1
  obtain ⟨g, hg⟩ : ∃ g, w.heap.size + 1 = g := ⟨_, rfl⟩
  have hgl : w.heap.size + 1 < w1.heap.size := (own1.lt _ rfl).2
  have HG := Lib.hid (show g = w.heap.size + 1 ∧ g < w1.heap.size from ⟨by omega, by omega⟩)
  rw [hg] at O1 ⊢
  have Z1 := Lib.hid (show w.heap.size < w1.heap.size by omega)
  clear own1 gr1 b0 bc0 bc1 b1 z0 z1 hg hgl qa qf
  go_wp2_with (at_builtin; refine wpList_append_fits_any _ rfl _ _ 47 rfl w.heap.size 56 i0 7 info_peers hi hz1 g 0 (n + 3) [] rfl O1.out A n c xs rfl HX.out HNil.out HCl1.out H1.out (by omega) ?_)
  intro w2 own2 gr2
  have own3 : w2.ownsRow w.heap.size 56 7 (.slice (some ⟨g, 0, none⟩) n (n + 3)) n xs := by simpa using own2
  have b2 : Below w.heap.size w w2 := B1.out.grown gr2 (by have := Z1.out; omega) (fun j hj => by simp only [Option.some.injEq] at hj; have := HG.out.1; omega)
  have bc2 : ∀ i, w2.cell? ⟨w.heap.size, i, none⟩ = (#[.string ⟨#[]⟩, .int .i64 0, .int .i64 0, .int .i64 0, .int .i64 0, .slice none 0 0, .int .i64 77] : Array Value)[i]? := fun i => (World.cell?_of_block (a := ⟨w.heap.size, i, none⟩) (gr2.block w.heap.size Z1.out (fun e => by simp only [Option.some.injEq] at e; have := HG.out.1; omega))).trans (BC1.out i)
  have O2 := Lib.hid own3
  have B2 := Lib.hid b2
  have BC2 := Lib.hid bc2
  have Z2 := Lib.hid (Nat.lt_of_lt_of_le Z1.out gr2.size)
  obtain ⟨bx, hbx⟩ : ∃ q, w.heap.size = q := ⟨_, rfl⟩
  have HBx := Lib.hid hbx
  rw [hbx] at BC2 Z2
  try rw [Nat.zero_add]
  rw [hbx]
  clear own2 own3 b2 bc2 gr2 hbx HCl1 O1 B1 BC1 Z1 HCl
  go_wp2_with fail
  go_loopw [13] (fun i wr => ∃ k : Nat, k ≤ 3 ∧ i = .int .i64 k ∧ wr.ownsRow w.heap.size 56 7 (.slice (some ⟨g, 0, none⟩) n (n + 3)) n xs ∧ (∀ i, i < k → ∀ j, j < 7 → wr.cell? ⟨g, (n + i) * 7 + j, none⟩ = markL[j]?) ∧ (∀ i, wr.cell? ⟨bx, i, none⟩ = (#[.string ⟨#[]⟩, .int .i64 0, .int .i64 0, .int .i64 0, .int .i64 0, .slice none 0 0, .int .i64 77] : Array Value)[i]?) ∧ bx < wr.heap.size ∧ Below w.heap.size w wr) (fun i _ => 3 - (intOf i).toNat)
  case atStart => exact ⟨0, by omega, rfl, O2.out, fun i hi => absurd hi (by omega), BC2.out, Z2.out, B2.out⟩
  case round =>
    obtain ⟨wx, rfl⟩ : ∃ z : World, z = wr := ⟨_, rfl⟩
    clear O2 B2 BC2 Z2
    obtain ⟨k, hk, rfl, own, hx, hbc, hbl, bel⟩ := hrel
    have hwr := own_wrS own
    obtain ⟨g', hg', _, hgl, hcell, hfz⟩ := hwr.2 _ rfl
    have hgg : g = g' := by injection hg'
    subst hgg
    have O := Lib.hid own
    have X := Lib.hid hx
    have BC := Lib.hid hbc
    have HBe := Lib.hid bel
    by_cases hlt : k < 3
    · obtain ⟨m, hm⟩ : ∃ m, n + k = m := ⟨_, rfl⟩
      have HM := Lib.hid hm
      obtain ⟨u0, h0⟩ := hcell (m * 7) (by omega)
      obtain ⟨u1, h1⟩ := hcell (m * 7 + 1) (by omega)
      obtain ⟨u2, h2⟩ := hcell (m * 7 + 2) (by omega)
      obtain ⟨u3, h3⟩ := hcell (m * 7 + 3) (by omega)
      obtain ⟨u4, h4⟩ := hcell (m * 7 + 4) (by omega)
      obtain ⟨u5, h5⟩ := hcell (m * 7 + 5) (by omega)
      obtain ⟨u6, h6⟩ := hcell (m * 7 + 6) (by omega)
      have x0 : wx.cell? ⟨bx, 0, none⟩ = some (.string ⟨#[]⟩) := hbc 0
      have x1 : wx.cell? ⟨bx, 1, none⟩ = some (.int .i64 0) := hbc 1
      have x2 : wx.cell? ⟨bx, 2, none⟩ = some (.int .i64 0) := hbc 2
      have x3 : wx.cell? ⟨bx, 3, none⟩ = some (.int .i64 0) := hbc 3
      have x4 : wx.cell? ⟨bx, 4, none⟩ = some (.int .i64 0) := hbc 4
      have x5 : wx.cell? ⟨bx, 5, none⟩ = some (.slice none 0 0) := hbc 5
      have x6 : wx.cell? ⟨bx, 6, none⟩ = some (.int .i64 77) := hbc 6
      have kl : (k : Int) < 3 := by omega
      have kw : IntKind.i64.wrap ((k : Int) + 1) = (k : Int) + 1 := IntWalk.i64_in _ (by omega)
      have nk : IntKind.i64.wrap ((n : Int) + (k : Int)) = (m : Int) := by rw [IntWalk.i64_in _ (by omega)]; omega
      have nkl : (m : Int) < (n : Int) + 3 := by omega
      have m0 : ¬ (m : Int) < 0 := by omega
      clear own hx hbc bel hwr hcell hg' hm
      go_wp2_with fail
      refine wp_region_quiet_tail 11 (Ext _) (by kernel_rfl) (by kernel_rfl) (Ext.drawn _) ?_
      simp only [List.take_succ_cons, List.take_zero, List.drop_succ_cons, List.drop_zero]
      repeat (first | go_big_quiet_skip | go_big_quiet_step (fail) | (refine BigFrame.wpQuiet_want rfl (fun K hK => ?_); apply Exists.intro; refine ⟨fun w2 h2 => ?_, ?_⟩; (next => (have g1 := Below.cells h2.below; have g2 := Below.frozens h2.below; (try simp only [World.size_alloc, World.size_setCell] at g1 g2); first | (go_simp; (fail)) | (simp [go_sem, ↓IntWalk.iteOmega, *]; done) | (simp [go_sem, ↓IntWalk.iteOmega, *]; rfl)))); (go_simp; refine hK _ ?_; clear hK K))
      refine wpQuiet_nil ?_
      intro w1 h1
      have hb1 := h1.below
      clear h1
      have z1 := hb1.size
      have c1 := Below.cells hb1
      have f1 := Below.frozens hb1
      try simp only [World.size_alloc, World.size_setCell, World.size_drew] at z1 c1 f1
      go_wp2_with fail
      have hxl := HX.out
      have hmn := HM.out
      have hbx : bx ≠ g := by have := HG.out.1; have := HBx.out; omega
      have hbase : w.heap.size ≤ g := by have := HG.out.1; omega
      have O1 := own_below O.out hb1
      have hw1 := hb1.size
      go_roundw
      case rel =>
        refine ⟨k + 1, by omega, by go_num, own_far (own_far (own_far (own_far (own_far (own_far (own_far O1 (by omega) _) (by omega) _) (by omega) _) (by omega) _) (by omega) _) (by omega) _) (by omega) _, fun i hi j hj => ?_, fun i => ?_, by simp; omega, ?_⟩
        · by_cases e : i = k
          · subst e
            rw [hmn]
            have c1 : ∀ j, j < 7 → w1.cell? ⟨g, m * 7 + j, none⟩ = wx.cell? ⟨g, m * 7 + j, none⟩ := fun j _ => hb1.cell (p := ⟨g, m * 7 + j, none⟩) hgl
            rcases (show j = 0 ∨ j = 1 ∨ j = 2 ∨ j = 3 ∨ j = 4 ∨ j = 5 ∨ j = 6 by omega) with rfl | rfl | rfl | rfl | rfl | rfl | rfl
            · repeat rw [cell_off (by omega)]
              exact World.cell?_setCell_same (u := u0) _ _ _ ((c1 0 (by omega)).trans h0)
            · repeat rw [cell_off (by omega)]
              exact World.cell?_setCell_same (u := u1) _ _ _ (by repeat rw [cell_off (by omega)]
                                                                 exact (c1 1 (by omega)).trans h1)
            · repeat rw [cell_off (by omega)]
              exact World.cell?_setCell_same (u := u2) _ _ _ (by repeat rw [cell_off (by omega)]
                                                                 exact (c1 2 (by omega)).trans h2)
            · repeat rw [cell_off (by omega)]
              exact World.cell?_setCell_same (u := u3) _ _ _ (by repeat rw [cell_off (by omega)]
                                                                 exact (c1 3 (by omega)).trans h3)
            · repeat rw [cell_off (by omega)]
              exact World.cell?_setCell_same (u := u4) _ _ _ (by repeat rw [cell_off (by omega)]
                                                                 exact (c1 4 (by omega)).trans h4)
            · repeat rw [cell_off (by omega)]
              exact World.cell?_setCell_same (u := u5) _ _ _ (by repeat rw [cell_off (by omega)]
                                                                 exact (c1 5 (by omega)).trans h5)
            · exact World.cell?_setCell_same (u := u6) _ _ _ (by repeat rw [cell_off (by omega)]
                                                                 exact (c1 6 (by omega)).trans h6)
          · rw [cell_off (by omega), cell_off (by omega), cell_off (by omega), cell_off (by omega), cell_off (by omega), cell_off (by omega), cell_off (by omega), hb1.cell (p := ⟨g, (n + i) * 7 + j, none⟩) hgl]
            exact X.out i (by omega) j hj
        · simp only [cell_ne hbx]
          rw [hb1.cell (p := ⟨bx, i, none⟩) hbl]
          exact BC.out i
        · exact (((((((HBe.out.trans (hb1.mono HBe.out.size)).setCell (show _ ≤ (⟨g, m * 7, none⟩ : Addr).block from hbase) _).setCell (show _ ≤ (⟨g, m * 7 + 1, none⟩ : Addr).block from hbase) _).setCell (show _ ≤ (⟨g, m * 7 + 2, none⟩ : Addr).block from hbase) _).setCell (show _ ≤ (⟨g, m * 7 + 3, none⟩ : Addr).block from hbase) _).setCell (show _ ≤ (⟨g, m * 7 + 4, none⟩ : Addr).block from hbase) _).setCell (show _ ≤ (⟨g, m * 7 + 5, none⟩ : Addr).block from hbase) _).setCell (show _ ≤ (⟨g, m * 7 + 6, none⟩ : Addr).block from hbase) _
      case measure => simp [intOf]; omega
    · obtain rfl : k = 3 := by omega
      clear own hx hbc bel hwr hcell hfz hg'
      go_wp2_with fail
      go_ret
      exact ⟨g, rfl, O.out, X.out, HBe.out⟩
end Go.Proofs.Ytpomdnglknbanaa

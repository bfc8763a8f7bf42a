
/-
  hwkeep's copied and spoilt.
-/
import Derived.Test.YtpomdnglknbanaaGreatVp
import Derived.Deep.DeepCutAuto
set_option linter.unusedSimpArgs false
set_option linter.unusedVariables false
namespace Go.Proofs.YtpomdnglknbanaaGreat
open Go Go.RowKit
theorem Room.below {w w' : World} {base g n : Nat} {l : List Int} {x : Int} (h : Room w base g n l x) (hb : Below w.heap.size w w') : Room w' base g n l x := by
  have hg : g < w.heap.size := by
    obtain ⟨g', e, _, h2, _⟩ := (own_wr h.1).2 _ rfl
    injection e with e
    omega
  exact ⟨own_below h.1 hb, fun i hi => (hb.cell (p := ⟨g, n + i, none⟩) hg).trans (h.2 i hi)⟩
theorem Room.old {w : World} {base base' g n : Nat} {l : List Int} {x : Int} (h : Room w base g n l x) (hb : base' ≤ base) : Room w base' g n l x := ⟨own_mono h.1 hb, h.2⟩
theorem own_types {w : World} {base base2 s s2 n n2 c c2 g g2 : Nat} {T T2 : TypeId} {xs ys : List Value} (h : w.ownsRow base T s (.slice (some ⟨g, 0, none⟩) n c) n xs) (h2 : w.ownsRow base2 T2 s2 (.slice (some ⟨g2, 0, none⟩) n2 c2) n2 ys) (hT : T ≠ T2) : g ≠ g2 := by
  rcases h.2 with ⟨e, _⟩ | ⟨a, _, cur, e, _, hc, _⟩
  · cases e
  rcases h2.2 with ⟨e', _⟩ | ⟨b, _, cur', e', _, hc', _⟩
  · cases e'
  simp only [Value.slice.injEq, Option.some.injEq, Addr.mk.injEq, and_true] at e e'
  intro hg
  subst hg
  rw [← e.1] at hc
  rw [← e'.1] at hc'
  rw [hc] at hc'
  injection hc' with hc'
  injection hc' with _ hc' _
  exact hT hc'
theorem own_sameB {w w' : World} {base e s n : Nat} {v : Value} {xs : List Value} (h : w.ownsRow base e s v n xs) (hb : ∀ g, v.ownBlock = some g → w'.heap[g]? = w.heap[g]?) : w'.ownsRow base e s v n xs := by
  refine ⟨h.1, ?_⟩
  rcases h.2 with h | ⟨g, cap, cur, rfl, h2, h3, r⟩
  · exact .inl h
  · exact .inr ⟨g, cap, cur, rfl, h2, (hb g rfl).trans h3, r⟩
theorem Room.set {w : World} {base base2 g gt o n nt ct : Nat} {l : List Int} {x : Int} {xs : List Value} (h : Room w base g n l x) (ht : w.ownsRow base2 90 7 (.slice (some ⟨gt, 0, none⟩) nt ct) nt xs) (v : Value) : Room (w.setCell ⟨gt, o, none⟩ v) base g n l x := by
  have hne : g ≠ gt := own_types h.1 ht (by decide)
  refine ⟨own_sameB h.1 (fun g' e => ?_), fun i hi => ?_⟩
  · simp only [Value.ownBlock, Option.some.injEq] at e
    subst e
    exact Below.heap_setCell _ _ _ _ (fun e => hne e)
  · rw [cell_ne hne]; exact h.2 i hi
def peerL (p : Peer) (v : Value) : List Value := [.string p.id, .int .i64 p.inc, .int .i64 p.seq, .int .i64 p.drops, .int .i64 p.cap, v, .int .i64 p.last]
theorem pvs_of {w : World} {base : Nat} : ∀ {L : List Peer} {xs : List Value}, xs.length = L.length * 7 → (∀ k, k < L.length → ∃ v, (∀ i, i < 7 → xs[k * 7 + i]? = (peerL (L.getD k default) v)[i]?) ∧ w.ownsRow base 3 1 v (L.getD k default).vals.length ((L.getD k default).vals.map (Value.int .i64))) → PVs w base L xs
  | [], xs, hl, _ => by
    have : xs = [] := List.eq_nil_of_length_eq_zero (by simpa using hl)
    exact this
  | p :: L, xs, hl, h => by
    simp only [List.length_cons] at hl
    obtain ⟨v, hv, ho⟩ := h 0 (by simp)
    refine ⟨xs.take 7, xs.drop 7, (List.take_append_drop 7 xs).symm, ⟨v, ?_, ho⟩, pvs_of (by rw [List.length_drop]; omega) fun k hk => ?_⟩
    · apply List.ext_getElem?
      intro i
      by_cases hi : i < 7
      · rw [List.getElem?_take_of_lt hi]
        have := hv i hi
        rw [Nat.zero_mul, Nat.zero_add] at this
        exact this
      · rw [List.getElem?_eq_none (by rw [List.length_take]; omega)]
        symm
        apply List.getElem?_eq_none
        show 7 ≤ i
        omega
    · obtain ⟨v', hv', ho'⟩ := h (k + 1) (by simp; omega)
      refine ⟨v', fun i hi => ?_, ho'⟩
      have := hv' i hi
      rw [List.getElem?_drop, show 7 + (k * 7 + i) = (k + 1) * 7 + i by omega]
      exact this
theorem Wr.below {w w' : World} {base c : Nat} {A : Option Addr} (h : Wr w base A c) (hb : Below w.heap.size w w') : Wr w' base A c := h.same hb.size (fun g off ha => hb.block g (by obtain ⟨g', e, _, h2, _⟩ := h.2 _ ha; injection e with e; omega))
/-- Nothing but blocks from lo up to hi was changed. -/
structure Only (lo hi : Nat) (w w' : World) : Prop where
  os : w'.os = w.os
  tape : w'.tape = w.tape
  output : w'.output = w.output
  size : w.heap.size ≤ w'.heap.size
  block : ∀ b, b < w.heap.size → ¬ (lo ≤ b ∧ b < hi) → w'.heap[b]? = w.heap[b]?
theorem Only.refl (lo hi : Nat) (w : World) : Only lo hi w w := ⟨rfl, rfl, rfl, Nat.le_refl _, fun _ _ _ => rfl⟩
theorem Only.below {lo hi : Nat} {w w1 w2 : World} (h : Only lo hi w w1) (hb : Below w1.heap.size w1 w2) : Only lo hi w w2 :=
  ⟨hb.os.trans h.os, hb.tape.trans h.tape, hb.output.trans h.output, Nat.le_trans h.size hb.size, fun b h1 h2 => (hb.block b (Nat.lt_of_lt_of_le h1 h.size)).trans (h.block b h1 h2)⟩
theorem Only.grown {lo hi : Nat} {w w1 w2 : World} {v : Option Nat} (h : Only lo hi w w1) (hg : w1.grownBy w2 v) (hv : ∀ g, v = some g → lo ≤ g ∧ g < hi) : Only lo hi w w2 :=
  ⟨hg.os.trans h.os, hg.tape.trans h.tape, hg.output.trans h.output, Nat.le_trans h.size hg.size, fun b h1 h2 => (hg.block b (Nat.lt_of_lt_of_le h1 h.size) (fun e => h2 (hv b e.symm))).trans (h.block b h1 h2)⟩
theorem Only.toBelow {lo hi : Nat} {w w' : World} (h : Only lo hi w w') {B : Nat} {a : World} (hb : Below B a w) (hlo : B ≤ lo) (hB : B ≤ w.heap.size) : Below B a w' :=
  ⟨h.os.trans hb.os, h.tape.trans hb.tape, h.output.trans hb.output, Nat.le_trans hb.size h.size, fun b h1 => (h.block b (by omega) (by omega)).trans (hb.block b h1)⟩
set_option maxRecDepth 100000 in
set_option maxHeartbeats 16000000 in
/-- A table as it was when it was made (in w0), spoilt in a later world. -/
theorem spoilt_ok (A : Option Addr) (n c lo : Nat) (L : List Peer) (xs : List Value) (w0 w : World) (own : w0.ownsRow lo 90 7 (.slice A n c) n xs) (pv : PVs w0 lo L xs) (hs : Same (fun b => lo ≤ b ∧ b < w0.heap.size) w0 w) (hlo : lo ≤ w0.heap.size) :
    Calls Tryz.prog 16 #[.slice A n c] w fun e w' => (∃ v, e = .returned v) ∧ Only lo w0.heap.size w w' := by
  have hxl := own.1
  have hLl := pv.len
  obtain ⟨A', c', e', hnc, hcm, hnn⟩ := own_form own
  have hnc' : n ≤ c := by simp only [Value.slice.injEq, true_and] at e'; rw [e'.2]; exact hnc
  have hc : c ≤ maxLen := by simp only [Value.slice.injEq, true_and] at e'; rw [e'.2]; exact hcm
  have hc2 : c ≤ 9223372036854775807 := by unfold maxLen at hc; omega
  have hwin : ∀ j, j < n → ∃ B cp, (∀ i, i < 7 → xs[j * 7 + i]? = (peerL (L.getD j default) (.slice B (L.getD j default).vals.length cp))[i]?) ∧ w0.ownsRow lo 3 1 (.slice B (L.getD j default).vals.length cp) (L.getD j default).vals.length ((L.getD j default).vals.map (Value.int .i64)) := fun j hj => by
    obtain ⟨u, ⟨v, rfl, ho⟩, hu⟩ := pv.get (k := j) (by omega)
    obtain ⟨B, cp, rfl, _⟩ := own_form ho
    exact ⟨B, cp, hu, ho⟩
  have own1 : w.ownsRow lo 90 7 (.slice A n c) n xs := own_sameB own (fun g e => hs.2 g (own.lt g e).2 ⟨(own.lt g e).1, (own.lt g e).2⟩)
  have wr1 : ∀ j, j < n → ∀ B m cp, xs[j * 7 + 5]? = some (.slice B m cp) → Wr w lo B cp := fun j hj B m cp hx => by
    obtain ⟨B', cp', h1, h2⟩ := hwin j hj
    have := h1 5 (by omega)
    rw [hx] at this
    have e : Value.slice B m cp = .slice B' (L.getD j default).vals.length cp' := by injection this
    simp only [Value.slice.injEq] at e
    obtain ⟨rfl, _, rfl⟩ := e
    exact own_wr (own_sameB h2 (fun g e => hs.2 g (h2.lt g e).2 ⟨(h2.lt g e).1, (h2.lt g e).2⟩))
  have hst : ∀ j, j < n → ∃ B cp, (∀ i, i < 7 → xs[j * 7 + i]? = (peerL (L.getD j default) (.slice B (L.getD j default).vals.length cp))[i]?) ∧ (L.getD j default).vals.length ≤ cp ∧ cp ≤ maxLen ∧ (∀ g', (Value.slice B (L.getD j default).vals.length cp).ownBlock = some g' → lo ≤ g' ∧ g' < w0.heap.size ∧ (Value.slice A n c).ownBlock ≠ some g') := fun j hj => by
    obtain ⟨B, cp, h1, h2⟩ := hwin j hj
    obtain ⟨_, _, e2, hle, hmx, _⟩ := own_form h2
    simp only [Value.slice.injEq, true_and] at e2
    refine ⟨B, cp, h1, by rw [e2.2]; exact hle, by rw [e2.2]; exact hmx, fun g' hg' => ⟨(h2.lt g' hg').1, (h2.lt g' hg').2, fun hA => ?_⟩⟩
    rcases h2.2 with ⟨e, _⟩ | ⟨gb, _, _, e, _⟩
    · rw [e] at hg'; simp [Value.ownBlock] at hg'
    · rcases own.2 with ⟨ea, _⟩ | ⟨ga, _, _, ea, _⟩
      · rw [ea] at hA; simp [Value.ownBlock] at hA
      · have h2' := h2
        have o' := own
        rw [e] at h2' hg'
        rw [ea] at o' hA
        simp only [Value.ownBlock, Option.some.injEq] at hg' hA
        exact own_types h2' o' (by decide) (by omega)
  have HSt := Lib.hid hst
  have O0 := Lib.hid own1
  have W0 := Lib.hid wr1
  have HLt := Lib.hid (fun g' hg' => own.lt g' hg')
  have hsz := hs.1
  have hxl' := Lib.hid hxl
  clear own pv hwin own1 wr1 hst hxl hLl e' hnc hcm hnn hs
  have qa := alloc_cells
  have qf := alloc_frozens
  go_enter Tryz.func16, Tryz.ntmps16
  go_wp2_with fail
  go_loopw [6] (fun i wr => ∃ k : Nat, k ≤ n ∧ i = .int .i64 k ∧ wr.ownsRow lo 90 7 (.slice A n c) n xs ∧ (∀ j, j < n → ∀ B m cp, xs[j * 7 + 5]? = some (.slice B m cp) → Wr wr lo B cp) ∧ Only lo w0.heap.size w wr) (fun i _ => n - (intOf i).toNat)
  case atStart => exact ⟨0, Nat.zero_le _, rfl, O0.out, W0.out, Only.refl _ _ _⟩
  case round =>
    obtain ⟨wx, rfl⟩ : ∃ q : World, q = wr := ⟨_, rfl⟩
    clear O0 W0
    obtain ⟨k, hk, rfl, hown, hwr, honly⟩ := hrel
    have O := Lib.hid hown
    have W := Lib.hid hwr
    have ON := Lib.hid honly
    by_cases hlt : k < n
    · obtain ⟨B, cp, hv, hle, hmx, hg⟩ := HSt.out k hlt
      obtain ⟨p, hp⟩ : ∃ p, L.getD k default = p := ⟨_, rfl⟩
      rw [hp] at hv hle hg
      obtain ⟨g, cg, eg, _, hgl⟩ := hown.form (by omega)
      have hA : A = some ⟨g, 0, none⟩ := by injection eg
      subst hA
      have cell : ∀ i, i < 7 → ∀ u, (peerL p (.slice B p.vals.length cp))[i]? = some u → wx.cell? ⟨g, k * 7 + i, none⟩ = some u := fun i hi u hu => by
        have := hown.cells (g := g) rfl (k * 7 + i) u (by rw [hv i hi]; exact hu)
        rw [Go.WideShapes.add_plain, Nat.zero_add] at this
        exact this
      have k0 : wx.cell? ⟨g, k * 7, none⟩ = some (.string p.id) := cell 0 (by omega) _ rfl
      have k1 := cell 1 (by omega) _ rfl
      have k2 := cell 2 (by omega) _ rfl
      have k3 := cell 3 (by omega) _ rfl
      have k4 := cell 4 (by omega) _ rfl
      have k5 := cell 5 (by omega) _ rfl
      have k6 := cell 6 (by omega) _ rfl
      have hwk := hwr k hlt B p.vals.length cp (by rw [hv 5 (by omega)]; rfl)
      have HSp := Lib.hid (fun w' (h : Wr w' lo B cp) => spoil_ok B p.vals.length cp lo 9 w' h hle hmx)
      have HWk := Lib.hid hwk
      have HGb := Lib.hid hg
      have kl : (k : Int) < n := by omega
      have kw : IntKind.i64.wrap ((k : Int) + 1) = (k : Int) + 1 := IntWalk.i64_in _ (by omega)
      clear hown hwr honly hv hp hg cell hwk eg hle hmx
      go_wp2_with fail
      have hAl : Below wx.heap.size wx (wx.alloc (.cells #[.string p.id, .int .i64 p.inc, .int .i64 p.seq, .int .i64 p.drops, .int .i64 p.cap, .slice B p.vals.length cp, .int .i64 p.last] 90)) := (Below.refl _ _).alloc (Nat.le_refl _) _
      refine (HSp.out _ (HWk.out.below hAl)).mono ?_
      rintro e w3 ⟨⟨v3, rfl⟩, gr, hz, hpres⟩
      have own2 := own_below O.out hAl
      have O3 := Lib.hid (own_sameB own2 (fun q hq => gr.block q (own2.lt q hq).2 (fun e => (HGb.out q e.symm).2.2 hq)))
      have W3 := Lib.hid (fun j hj B m cp hx => hpres _ _ _ ((W.out j hj B m cp hx).below hAl))
      have ON3 := Lib.hid ((ON.out.below hAl).grown gr (fun q hq => ⟨(HGb.out q hq).1, (HGb.out q hq).2.1⟩))
      clear hAl gr hz hpres own2
      go_wp2_with fail
      go_roundw
      case rel => exact ⟨k + 1, by omega, by go_num, O3.out, W3.out, ON3.out⟩
      case measure => simp [intOf]; omega
    · obtain rfl : n = k := by omega
      have HP := Lib.hid (spoilP_ok A n c lo wx (own_wrS hown) hnc' hc (by have := honly.size; omega))
      clear hown hwr honly
      go_wp2_with fail
      refine HP.out.mono ?_
      rintro e w2 ⟨⟨v2, rfl⟩, gr⟩
      have ON2 := Lib.hid (ON.out.grown gr (fun q hq => HLt.out q hq))
      clear gr
      go_wp2_with fail
      go_end0
      exact ⟨⟨_, rfl⟩, ON2.out⟩
end Go.Proofs.YtpomdnglknbanaaGreat

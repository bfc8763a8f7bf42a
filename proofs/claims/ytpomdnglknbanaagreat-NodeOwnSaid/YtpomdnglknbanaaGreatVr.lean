
/-
  hwkeep's roomy, marked and spoil at lists of integers.
-/
import Derived.Test.YtpomdnglknbanaaGreatLs
import Derived.Test.YtpomdnglknbanaaGreatQT
import Derived.OwnWalk
import Derived.Below
import Derived.Deep.DeepCutAuto
set_option linter.unusedSimpArgs false
set_option linter.unusedVariables false
namespace Go.Proofs.YtpomdnglknbanaaGreat
open Go Go.RowKit
/-- A slice in memory that may be written up to its capacity; its block is not older than base. -/
def Wr (w : World) (base : Nat) (A : Option Addr) (c : Nat) : Prop :=
  (A = none → c = 0) ∧ ∀ ad, A = some ad → ∃ g, ad = ⟨g, 0, none⟩ ∧ base ≤ g ∧ g < w.heap.size ∧ (∀ i, i < c → ∃ u, w.cell? ⟨g, i, none⟩ = some u) ∧ ∀ o, w.frozen? ⟨g, o, none⟩ = false
theorem Wr.same {w w' : World} {base c : Nat} {A : Option Addr} (h : Wr w base A c) (hz : w.heap.size ≤ w'.heap.size) (hb : ∀ g off, A = some ⟨g, off, none⟩ → w'.heap[g]? = w.heap[g]?) : Wr w' base A c := by
  refine ⟨h.1, fun ad ha => ?_⟩
  obtain ⟨g, rfl, h1, h2, h3, h4⟩ := h.2 ad ha
  have e := hb g 0 ha
  refine ⟨g, rfl, h1, by omega, fun i hi => ?_, fun o => ?_⟩
  · obtain ⟨u, hu⟩ := h3 i hi
    exact ⟨u, (World.cell?_of_block (a := ⟨g, i, none⟩) e).trans hu⟩
  · exact (World.frozen?_of_block e).trans (h4 o)
theorem own_wr {w : World} {base e n c : Nat} {A : Option Addr} {xs : List Value} (h : w.ownsRow base e 1 (.slice A n c) n xs) : Wr w base A c := by
  rcases h.2 with ⟨h1, h0⟩ | ⟨g, c', cur, h1, hbg, hg, hnc, hcm, hcs, _⟩
  · simp only [Value.slice.injEq] at h1
    obtain ⟨rfl, _, rfl⟩ := h1
    exact ⟨fun _ => rfl, (fun ad ha => by cases ha)⟩
  · simp only [Value.slice.injEq] at h1
    obtain ⟨rfl, _, rfl⟩ := h1
    refine ⟨(fun h => by cases h), fun ad ha => ?_⟩
    cases ha
    have k1 : ∀ o, w.cell? ⟨g, o, none⟩ = cur[o]? := fun o => by simp [World.cell?, hg]
    have k2 : ∀ o, w.frozen? ⟨g, o, none⟩ = false := fun o => by simp [World.frozen?, hg]
    refine ⟨g, rfl, hbg, (Array.getElem?_eq_some_iff.1 hg).1, fun i hi => ?_, k2⟩
    rw [k1, Array.getElem?_eq_getElem (by omega)]
    exact ⟨_, rfl⟩
theorem grown_setV {w w1 : World} {g : Nat} (h : w.grownBy w1 (some g)) (o : Nat) (u : Value) : w.grownBy (w1.setCell ⟨g, o, none⟩ u) (some g) :=
  ⟨h.os, h.tape, h.output, by simpa using h.size, fun x hx hne => (Below.heap_setCell _ _ _ _ (fun e => hne (by rw [e]))).trans (h.block x hx hne)⟩
theorem Wr.setCell {w : World} {base c : Nat} {A : Option Addr} (h : Wr w base A c) (b o : Nat) (v : Value) : Wr (w.setCell ⟨b, o, none⟩ v) base A c := by
  refine ⟨h.1, fun ad ha => ?_⟩
  obtain ⟨g, rfl, h1, h2, h3, h4⟩ := h.2 ad ha
  refine ⟨g, rfl, h1, by simpa using h2, fun i hi => ?_, fun o => by simpa using h4 o⟩
  obtain ⟨u, hu⟩ := h3 i hi
  by_cases e : (⟨b, o, none⟩ : Addr) = ⟨g, i, none⟩
  · rw [e]
    exact ⟨_, World.cell?_setCell_same _ _ _ (by rw [hu])⟩
  · exact ⟨u, (World.cell?_setCell_other _ _ _ _ e).trans hu⟩
set_option maxRecDepth 100000 in
set_option maxHeartbeats 8000000 in
theorem spoil_ok (A : Option Addr) (n c base : Nat) (x : Int) (w : World) (h : Wr w base A c) (hn : n ≤ c) (hc : c ≤ maxLen) :
    Calls Tryz.prog 39 #[.slice A n c, .int .i64 x] w fun e w' => (∃ v, e = .returned v) ∧ w.grownBy w' (Value.slice A n c).ownBlock ∧ w'.heap.size = w.heap.size ∧ ∀ B A' c', Wr w B A' c' → Wr w' B A' c' := by
  unfold maxLen at hc
  have nc : (n : Int) ≤ c := by omega
  rcases A with _ | ad
  · have c0 : c = 0 := h.1 rfl
    subst c0
    obtain rfl : n = 0 := by omega
    clear h
    go_enter Tryz.func39, Tryz.ntmps39
    go_wp2_with fail
    go_loopw [11] (fun i wr => i = .int .i64 0 ∧ wr = w) (fun i _ => 0)
    case atStart => exact ⟨rfl, rfl⟩
    case round =>
      obtain ⟨rfl, rfl⟩ := hrel
      go_wp2_with fail
      go_end0
      exact ⟨⟨_, rfl⟩, World.grownBy.refl _ _, rfl, fun _ _ _ h => h⟩
  · obtain ⟨g, rfl, hbg, hgl, hcell, hfz⟩ := h.2 ad rfl
    have HC := Lib.hid hcell
    have HF := Lib.hid hfz
    clear h hcell hfz
    go_enter Tryz.func39, Tryz.ntmps39
    go_wp2_with fail
    go_loopw [11] (fun i wr => ∃ k : Nat, k ≤ c ∧ i = .int .i64 k ∧ w.grownBy wr (some g) ∧ wr.heap.size = w.heap.size ∧ (∀ i, i < c → ∃ u, wr.cell? ⟨g, i, none⟩ = some u) ∧ (∀ o, wr.frozen? ⟨g, o, none⟩ = false) ∧ ∀ B A' c', Wr w B A' c' → Wr wr B A' c') (fun i _ => c - (intOf i).toNat)
    case atStart => exact ⟨0, Nat.zero_le _, rfl, World.grownBy.refl _ _, rfl, HC.out, HF.out, fun _ _ _ h => h⟩
    case round =>
      obtain ⟨wx, rfl⟩ : ∃ z : World, z = wr := ⟨_, rfl⟩
      obtain ⟨k, hk, rfl, hg, hz, hcell, hfz, hwr⟩ := hrel
      have HW := Lib.hid hwr
      clear hwr
      by_cases hlt : k < c
      · obtain ⟨u, hu⟩ := hcell k hlt
        have kf := hfz k
        have kl : (k : Int) < c := by omega
        have kw : IntKind.i64.wrap ((k : Int) + 1) = (k : Int) + 1 := IntWalk.i64_in _ (by omega)
        have HG := Lib.hid hg
        have HZ := Lib.hid hz
        have HCl := Lib.hid hcell
        have HFz := Lib.hid hfz
        clear hg hz hcell hfz HC HF
        go_wp2_with fail
        go_roundw
        case rel =>
          refine ⟨k + 1, by omega, by go_num, grown_setV HG.out k _, by simpa using HZ.out, fun i hi => ?_, fun o => by simpa using HFz.out o, fun B A' c' h => (HW.out B A' c' h).setCell g k _⟩
          by_cases e : i = k
          · subst e
            exact ⟨_, World.cell?_setCell_same _ _ _ (by rw [hu])⟩
          · obtain ⟨v, hv⟩ := HCl.out i hi
            exact ⟨v, (World.cell?_setCell_other _ _ _ _ (fun e' => by injection e' with _ e2; omega)).trans hv⟩
        case measure => simp [intOf]; omega
      · obtain rfl : c = k := by omega
        have HG := Lib.hid hg
        have HZ := Lib.hid hz
        clear hg hz hcell hfz
        go_wp2_with fail
        go_end0
        exact ⟨⟨_, rfl⟩, HG.out, HZ.out, HW.out⟩
theorem own_setV {w : World} {base e s n c g : Nat} {xs : List Value} (h : w.ownsRow base e s (.slice (some ⟨g, 0, none⟩) n c) n xs) (j : Nat) (v : Value) : (w.setCell ⟨g, j, none⟩ v).ownsRow base e s (.slice (some ⟨g, 0, none⟩) n c) n (xs.set j v) := by
  have hl := h.1
  rcases h.2 with ⟨h, _⟩ | ⟨g', c', cur, h, hbg, hg, hnc, hcm, hcs, htk⟩
  · cases h
  simp only [Value.slice.injEq, Option.some.injEq, Addr.mk.injEq, and_true, true_and] at h
  obtain ⟨rfl, rfl⟩ := h
  refine ⟨by simpa using hl, .inr ⟨g, c, cur.setIfInBounds j v, rfl, hbg, by simp [World.setCell, Array.getElem?_modify, hg], hnc, hcm, by simpa using hcs, ?_⟩⟩
  rw [Array.toList_setIfInBounds, List.take_set, htk]
/-- What roomy leaves: a list of the call's own, behind it three times x. -/
def Room (w : World) (base g n : Nat) (l : List Int) (x : Int) : Prop :=
  w.ownsRow base 3 1 (.slice (some ⟨g, 0, none⟩) n (n + 3)) n (l.map (Value.int .i64)) ∧ ∀ i, i < 3 → w.cell? ⟨g, n + i, none⟩ = some (.int .i64 x)
theorem Wr.setCells {base c : Nat} {A : Option Addr} (b : Nat) : ∀ (vs : List Value) (o : Nat) {w : World}, Wr w base A c → Wr (w.setCells b o vs) base A c
  | [], _, _, h => h
  | v :: r, o, w, h => by
    rw [World.setCells]
    exact Wr.setCells b r _ (h.setCell b o v)
theorem Wr.drew {w : World} {base c : Nat} {A : Option Addr} (h : Wr w base A c) : Wr w.drew base A c := h.same (Nat.le_refl _) (fun _ _ _ => rfl)
theorem Wr.drewN {w : World} {base c : Nat} {A : Option Addr} (h : Wr w base A c) (q : Nat) : Wr (w.drewN q) base A c := h.same (Nat.le_refl _) (fun _ _ _ => rfl)
theorem wr_alloc (w : World) (X : Array Value) (T : TypeId) {c base : Nat} (hX : X.size = c) (hb : base ≤ w.heap.size) : Wr (w.alloc (.cells X T)) base (some ⟨w.heap.size, 0, none⟩) c := by
  refine ⟨(fun h => by cases h), fun ad ha => ?_⟩
  cases ha
  refine ⟨w.heap.size, rfl, hb, by simp, fun i hi => ?_, fun o => by rw [alloc_frozens]; simp⟩
  rw [World.cell?_alloc_new, Array.getElem?_eq_getElem (by omega)]
  exact ⟨_, rfl⟩
/-- A row that is read, and may be written up to its capacity. -/
structure Fresh (w : World) (base : Nat) (A : Option Addr) (n c : Nat) (l : List Int) : Prop where
  row : Row w A n l
  wr : Wr w base A c
  le : n ≤ c
  max : c ≤ maxLen
theorem fresh_own {w : World} {base n c : Nat} {A : Option Addr} {l : List Int} (h : w.ownsRow base 3 1 (.slice A n c) n (l.map (Value.int .i64))) : Fresh w base A n c l := by
  obtain ⟨A', c', e, h1, h2, _⟩ := own_form h
  simp only [Value.slice.injEq, true_and] at e
  obtain ⟨_, rfl⟩ := e
  exact ⟨Row.of_own h, own_wr h, h1, h2⟩
theorem Fresh.nil (w : World) (base : Nat) : Fresh w base none 0 0 [] := ⟨Row.nil, ⟨fun _ => rfl, (fun ad ha => by cases ha)⟩, Nat.le_refl _, Nat.zero_le _⟩
theorem Fresh.below {w w' : World} {base n c : Nat} {A : Option Addr} {l : List Int} (h : Fresh w base A n c l) (hb : Below w.heap.size w w') : Fresh w' base A n c l :=
  ⟨h.row.below hb, h.wr.same hb.size (fun g off ha => hb.block g (by obtain ⟨g', e, _, h2, _⟩ := h.wr.2 _ ha; injection e with e; omega)), h.le, h.max⟩
theorem Fresh.old {w : World} {base base' n c : Nat} {A : Option Addr} {l : List Int} (h : Fresh w base A n c l) (hb : base' ≤ base) : Fresh w base' A n c l :=
  ⟨h.row, ⟨h.wr.1, fun ad ha => by obtain ⟨g, e, h1, h2⟩ := h.wr.2 ad ha; exact ⟨g, e, Nat.le_trans hb h1, h2⟩⟩, h.le, h.max⟩
end Go.Proofs.YtpomdnglknbanaaGreat

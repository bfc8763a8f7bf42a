/-
  slices.Insert of one peer into a row of the call's own.
-/
import Derived.Test.YtpomdnglknbanaaDe3
import Derived.Lib.AppendZerosOnto
import Derived.Lib.Overlaps
import Derived.Lib.Slices
set_option linter.unusedSimpArgs false
set_option linter.unusedVariables false
namespace Go.Proofs.Ytpomdnglknbanaa
open Go.RowKit

theorem splice_take_le {l : List Value} {o k : Nat} {vs : List Value} (h : o ≤ l.length) (hk : k ≤ o) : (splice l o vs).take k = l.take k := by
  unfold splice
  rw [List.take_append_of_le_length (by rw [List.length_take]; omega), List.take_take, Nat.min_eq_left hk]
theorem splice_drop {l : List Value} {o : Nat} {vs : List Value} (h : o ≤ l.length) : (splice l o vs).drop o = vs ++ l.drop (o + vs.length) := by
  unfold splice
  rw [List.drop_append, List.drop_of_length_le (by rw [List.length_take]; omega), List.length_take, Nat.min_eq_left h, Nat.sub_self, List.drop_zero, List.nil_append]
theorem take_two (us vs r : List Value) : (us ++ (vs ++ r)).take (us.length + vs.length) = us ++ vs := by
  rw [← List.append_assoc, List.take_append_of_le_length (by rw [List.length_append]; omega), List.take_of_length_le (by rw [List.length_append]; omega)]
theorem take_left1 (us r : List Value) : (us ++ r).take us.length = us := by
  rw [List.take_append_of_le_length (by omega), List.take_of_length_le (by omega)]
theorem ins_room {l us vs : List Value} {a b : Nat} (hb : a + us.length = b) (hl : b + vs.length ≤ l.length) : (splice (splice l b vs) a us).take (b + vs.length) = l.take a ++ us ++ vs := by
  have h1 : (splice l b vs).length = l.length := length_splice _ _ _ hl
  rw [show b + vs.length = a + (us.length + vs.length) by omega, splice_take (by omega), splice_take_le (by omega) (by omega), hb, splice_drop (by omega), take_two, List.append_assoc]
theorem ins_grow {l us vs : List Value} {a b : Nat} (hb : a + us.length = b) (hl : b + vs.length ≤ l.length) : (splice (splice l a us) b vs).take (b + vs.length) = l.take a ++ us ++ vs := by
  have h1 : (splice l a us).length = l.length := length_splice _ _ _ (by omega)
  rw [splice_take (by omega), take_left1, ← hb, splice_take (by omega), take_left1]
theorem us_cells {w : World} {B : Nat} {us : List Value} {TB : TypeId} (hB : w.heap[B]? = some (.cells us.toArray TB (0, 0))) : ∀ j v, us[j]? = some v → w.cell? ((⟨B, 0, none⟩ : Addr).add j) = some v := fun j v hj => by
  rw [Go.WideShapes.add_plain, (block_cells hB).1]; simpa using hj

set_option maxRecDepth 100000 in
set_option maxHeartbeats 4000000 in
theorem insP_end (A : Option Addr) (n c B base : Nat) (xs us : List Value) (TB : TypeId) (w : World) (own : w.ownsRow base 56 7 (.slice A n c) n xs) (hul : us.length = 7) (hu1 : ∀ u ∈ us, u.oneCell' = true)
    (hB : w.heap[B]? = some (.cells us.toArray TB (0, 0))) (hn : n ≤ 1000) (hbase : base ≤ w.heap.size) :
    Calls Try.prog 106 #[.slice A n c, .int .i64 n, .slice (some ⟨B, 0, none⟩) 1 1] w fun e w' => ∃ A' c', e = .returned (.slice A' (n + 1) c') ∧ w'.ownsRow base 56 7 (.slice A' (n + 1) c') (n + 1) (xs ++ us) ∧ w.grownBy w' (Value.slice A n c).ownBlock := by
  have HO := Lib.hid own
  have HU := Lib.hid (us_cells hB)
  have HU1 := Lib.hid hu1
  have HUl := Lib.hid (show us.length = 1 * 7 by omega)
  obtain ⟨_, _, hfv, hnc, hcm, hnil⟩ := own_form own
  injection hfv with hf1 _ hf3
  subst hf1 hf3
  unfold maxLen at hcm
  obtain ⟨i0, hi, hz0, hz1, hz2⟩ := info_parts info_peer
  clear own hu1 hB hul
  rcases A with _ | ad
  · obtain ⟨rfl, rfl⟩ := hnil rfl
    go_enter Try.func106, Try.ntmps106
    go_wp2_with (at_builtin; refine wpList_append_own _ rfl _ _ 47 rfl base 56 i0 _ 7 80 info_peers hi hz0 hz1 hz2 rfl (by decide) _ _ _ rfl HO.out ⟨B, 0, none⟩ 1 1 us rfl HUl.out HU.out HU1.out (by unfold maxLen; omega) (by omega) hbase ?_)
    intro vq wq ownq grq _
    obtain ⟨Aq, cq, rfl, _, _, _⟩ := own_form ownq
    have OQ := Lib.hid ownq
    have GQ := Lib.hid grq
    clear ownq grq
    go_wp2_with fail
    go_ret
    exact ⟨Aq, cq, rfl, OQ.out, GQ.out⟩
  · have hq : c = n ∨ n < c := by omega
    go_enter Try.func106, Try.ntmps106
    go_wp2_with (at_builtin; refine wpList_append_own _ rfl _ _ 47 rfl base 56 i0 _ 7 80 info_peers hi hz0 hz1 hz2 rfl (by decide) _ _ _ rfl HO.out ⟨B, 0, none⟩ 1 1 us rfl HUl.out HU.out HU1.out (by unfold maxLen; omega) (by omega) hbase ?_)
    all_goals
      intro vq wq ownq grq _
      obtain ⟨Aq, cq, rfl, _, _, _⟩ := own_form ownq
      have OQ := Lib.hid ownq
      have GQ := Lib.hid grq
      clear ownq grq
      go_wp2_with fail
      go_ret
      exact ⟨Aq, cq, rfl, OQ.out, GQ.out⟩
set_option maxRecDepth 100000 in
set_option maxHeartbeats 8000000 in
theorem insP_grow (g n i B base : Nat) (xs us : List Value) (TB : TypeId) (w : World) (own : w.ownsRow base 56 7 (.slice (some ⟨g, 0, none⟩) n n) n xs) (hx1 : ∀ u ∈ xs, u.oneCell' = true) (hul : us.length = 7) (hu1 : ∀ u ∈ us, u.oneCell' = true)
    (hB : w.heap[B]? = some (.cells us.toArray TB (0, 0))) (hi : i < n) (hn : n ≤ 1000) (hbase : base ≤ w.heap.size) :
    Calls Try.prog 106 #[.slice (some ⟨g, 0, none⟩) n n, .int .i64 i, .slice (some ⟨B, 0, none⟩) 1 1] w fun e w' => ∃ A' c', e = .returned (.slice A' (n + 1) c') ∧ w'.ownsRow base 56 7 (.slice A' (n + 1) c') (n + 1) (xs.take (i * 7) ++ us ++ xs.drop (i * 7)) ∧ Below w.heap.size w w' := by
  have hxl := own.1
  rcases own.2 with ⟨h, _⟩ | ⟨g', c', cur, h, hbg, hg, hnc, hcm, hcs, htk⟩
  · cases h
  simp only [Value.slice.injEq, Option.some.injEq, Addr.mk.injEq, and_true, true_and] at h
  obtain ⟨rfl, rfl⟩ := h
  have hgl : g < w.heap.size := (Array.getElem?_eq_some_iff.1 hg).1
  have hBl : B < w.heap.size := (Array.getElem?_eq_some_iff.1 hB).1
  obtain ⟨m, hm⟩ : ∃ m, n + 1 - i = m := ⟨_, rfl⟩
  obtain ⟨i0, hi0, hz0, hz1, hz2⟩ := info_parts info_peer
  have hcell : ∀ q, w.cell? ⟨g, q, none⟩ = cur[q]? := fun q => cell_of_row (w := w) _ _ _ _ _ hg
  have hxc : ∀ q u, xs[q]? = some u → cur[q]? = some u := fun q u hu => by
    rw [← htk, List.getElem?_take] at hu
    split at hu
    · simpa using hu
    · cases hu
  have hold : (Builtin.firstCells i0.size i (.slice (some ⟨g, 0, none⟩) i n)).run Try.prog w.drew = .ok (xs.take (i * 7)).toArray w.drew := by
    rw [hz1]
    exact run_firstCells_some w.drew 7 i ⟨g, 0, none⟩ i n (xs.take (i * 7)) (by rw [List.length_take]; omega) (fun j v hj => by
      rw [Addr.add_lit, Nat.zero_add]
      rw [List.getElem?_take] at hj
      split at hj
      · exact (hcell _).trans (hxc j v hj)
      · cases hj)
  obtain ⟨G, hG⟩ : ∃ G, grownCap w (n + 1) n 56 = G := ⟨_, rfl⟩
  have hGn : n + 1 ≤ G := by rw [← hG]; exact grownCap_ge w _ _ _
  have hG63 : G ≤ 9223372036854775807 := by
    have := grownCap_le_maxLen w (n + 1) n 56 (by unfold maxLen; omega)
    rw [hG] at this
    unfold maxLen at this
    omega
  obtain ⟨ROW, hROW⟩ : ∃ ROW : List Value, ROW = xs.take (i * 7) ++ zeros zeroP.cells (n + 1 - i) ++ zeros zeroP.cells (G - (n + 1)) := ⟨_, rfl⟩
  have hRl : ROW.length = G * 7 := by
    rw [hROW, List.length_append, List.length_append, zeros_len, zeros_len, zeroP_cells, List.length_take, hxl]; omega
  have hRt : ROW.take (i * 7) = xs.take (i * 7) := by
    rw [hROW, List.append_assoc, List.take_append_of_le_length (by rw [List.length_take]; omega), List.take_of_length_le (by rw [List.length_take]; omega)]
  obtain ⟨W1, hW1⟩ : ∃ W1, W1 = w.drew.alloc (.cells ROW.toArray 56) := ⟨_, rfl⟩
  have hRA : ROW.toArray = (xs.take (i * 7)).toArray ++ Builtin.zeroCells zeroP.cells m ++ Builtin.zeroCells zeroP.cells (G - (n + 1)) := by
    rw [hROW, hm]
    apply Array.toList_inj.1
    simp [zeros]
  have hkk : (n : Int) + 1 - (i : Int) = (m : Int) := by omega
  have hrz : ∀ ty, (Builtin.append_ #[47, 3] ty #[.slice (some ⟨g, 0, none⟩) i n, .int .i64 ((n : Int) + 1 - (i : Int))]).run Try.prog w = .ok (.slice (some ⟨w.heap.size, 0, none⟩) (n + 1) G) W1 := fun ty => by
    have h := Lib.run_append_grow_zeros (P := Try.prog) w 47 3 ty 56 i0 zeroP .i64 .i64 info_peers Try.underlying3 hi0 hz0 (some ⟨g, 0, none⟩) i n (xs.take (i * 7)) hold m (by omega) (by omega) (by omega) (by omega) (by rw [hz2]; omega) (by rw [hz2, show i + m = n + 1 by omega]; exact growslice_fits (by omega) (by omega))
    rw [show i + m = n + 1 by omega, hG] at h
    rw [hkk, h, hW1, hRA]
  have bl1 : Below w.heap.size w W1 := by rw [hW1]; exact (Below.drew (Below.refl _ w)).alloc (Nat.le_refl _) _
  have G1 : Hid (W1.heap[w.heap.size]? = some (.cells ROW.toArray 56 (0, 0))) := by show _ = _; rw [hW1]; exact heap_alloc_new w.drew _
  have HU : Hid (∀ (W : World), W.heap[B]? = w.heap[B]? → ∀ j v, us[j]? = some v → W.cell? ((⟨B, 0, none⟩ : Addr).add j) = some v) := fun W h => us_cells (h.trans hB)
  obtain ⟨vs, hvs⟩ : ∃ vs, xs.drop (i * 7) = vs := ⟨_, rfl⟩
  have hvl : vs.length = (n - i) * 7 := by rw [← hvs, List.length_drop, hxl]; omega
  have HV : Hid (∀ (W : World), W.heap[g]? = w.heap[g]? → ∀ j v, vs[j]? = some v → W.cell? ((⟨g, i * 7, none⟩ : Addr).add j) = some v) := fun W h j v hj => by
    rw [Addr.add_lit, cell_of_row (w := W) _ _ _ _ _ (h.trans hg)]
    rw [← hvs, List.getElem?_drop] at hj
    exact hxc _ _ hj
  have hv1 : Hid (∀ u ∈ vs, u.oneCell' = true) := fun u hu => hx1 u (by rw [← hvs] at hu; exact List.mem_of_mem_drop hu)
  have HU1 := Lib.hid hu1
  have BG : Hid (W1.heap[g]? = w.heap[g]?) := bl1.block g hgl
  have BB : Hid (W1.heap[B]? = w.heap[B]?) := bl1.block B hBl
  have HB1 := Lib.hid bl1
  have hz3 : (n : Int) < (n : Int) + 1 := by omega
  have hz2' : ¬ ((i : Int) = (n : Int)) := by omega
  have hw1 : IntKind.i64.wrap ((i : Int) + 1) = (i : Int) + 1 := by rw [IntKind.wrap_i64]; omega
  have hb1 : (0 : Int) ≤ (i : Int) + 1 := by omega
  have hin : i ≤ n := by omega
  have htn : ((i : Int) + 1).toNat = i + 1 := by omega
  have hb3 : (i : Int) ≤ (n : Int) := by omega
  have hGi : ¬ (G = i) := by omega
  have hGim : ¬ (G = i + 1) := by omega
  have hni : ¬ (n = i) := by omega
  have X1 := Lib.hid hRl
  have X2 := Lib.hid hul
  have X3 := Lib.hid hvl
  have X4 := Lib.hid hRt
  have X5 := Lib.hid hm
  have HRz := Lib.hid hrz
  have X6 := Lib.hid hvs
  clear own hx1 hu1 hB hcell hxc hold hG hROW hRt hW1 hrz bl1 hvl hRl hul htk hg hcs hm hvs hkk hRA
  go_enter Try.func106, Try.ntmps106
  go_wp2_with (first
    | (at_builtin; refine Lib.wpList_append_run _ rfl _ _ _ _ rfl _ _ rfl rfl _ _ (HRz.out _) ?_)
    | (refine wpList_copy_spliceK rfl _ _ 47 47 rfl 56 7 (by omega) info_peers info_peerS _ _ _ _ _ _ rfl rfl w.heap.size (i * 7) ROW _ G1.out us (by rw [X2.out]; simp only [Nat.min_def]; split <;> omega) (fun _ => ⟨rfl, _, rfl, HU.out _ BB.out⟩) (by have := X1.out; have := X2.out; omega) HU1.out ?_; intro W3 G3 O3))
  go_simp
  have hne : w.heap.size ≠ g := by omega
  have BG3 : Hid (W3.heap[g]? = w.heap[g]?) := (O3.out.block g (Ne.symm hne)).trans BG.out
  go_region_law (refine step_copy_spliceK rfl _ _ 47 47 rfl 56 7 (by omega) info_peers info_peerS (some ⟨w.heap.size, (i + 1) * 7, none⟩) (some ⟨g, i * 7, none⟩) (n + 1 - (i + 1)) (G - (i + 1)) (n - i) (n - i) (by simp [Act.eval, Act.put]) (by simp [Act.eval, Act.put]) w.heap.size ((i + 1) * 7) _ _ G3.out vs (by rw [X3.out]; simp only [Nat.min_def]; split <;> omega) (fun _ => ⟨rfl, _, rfl, HV.out _ BG3.out⟩) (by rw [length_splice _ _ _ (by have := X1.out; have := X2.out; omega)]; have := X1.out; have := X3.out; omega) hv1.out ?_; intro W4 G4 O4)
  go_wp2_with fail
  go_ret
  have hl3 := length_splice ROW (i * 7) us (by have := X1.out; have := X2.out; omega)
  have hl4 := length_splice (splice ROW (i * 7) us) ((i + 1) * 7) vs (by have := X1.out; have := X3.out; omega)
  have hrow : (splice (splice ROW (i * 7) us) ((i + 1) * 7) vs).take ((n + 1) * 7) = xs.take (i * 7) ++ us ++ xs.drop (i * 7) := by
    have h := ins_grow (l := ROW) (us := us) (vs := vs) (a := i * 7) (b := (i + 1) * 7) (by have := X2.out; omega) (by have := X1.out; have := X3.out; omega)
    rw [X3.out, X4.out, show (i + 1) * 7 + (n - i) * 7 = (n + 1) * 7 by omega] at h
    rw [h, X6.out]
  refine ⟨some ⟨w.heap.size, 0, none⟩, G, rfl, ⟨?_, .inr ⟨w.heap.size, G, _, rfl, hbase, G4.out, by omega, by unfold maxLen; omega, by have := X1.out; simp; omega, by simpa using hrow⟩⟩, ?_⟩
  · rw [← hrow, List.length_take]; have := X1.out; omega
  · exact (HB1.out.trans (O3.out.below (Nat.le_refl _))).drew.trans (O4.out.below (Nat.le_refl _))
theorem sizeOf_peer : ∀ w, (Go.sizeOf 56).run Try.prog w = .ok 7 w := Try.sizeOf56
set_option maxRecDepth 100000 in
set_option maxHeartbeats 8000000 in
theorem insP_room (g n c i B base : Nat) (xs us : List Value) (TB : TypeId) (w : World) (own : w.ownsRow base 56 7 (.slice (some ⟨g, 0, none⟩) n c) n xs) (hx1 : ∀ u ∈ xs, u.oneCell' = true) (hul : us.length = 7) (hu1 : ∀ u ∈ us, u.oneCell' = true)
    (hB : w.heap[B]? = some (.cells us.toArray TB (0, 0))) (hBg : B ≠ g) (hi : i < n) (hn : n ≤ 1000) (hc : n < c) :
    Calls Try.prog 106 #[.slice (some ⟨g, 0, none⟩) n c, .int .i64 i, .slice (some ⟨B, 0, none⟩) 1 1] w fun e w' => ∃ A' c', e = .returned (.slice A' (n + 1) c') ∧ w'.ownsRow base 56 7 (.slice A' (n + 1) c') (n + 1) (xs.take (i * 7) ++ us ++ xs.drop (i * 7)) ∧ w.grownBy w' (some g) := by
  have hxl := own.1
  rcases own.2 with ⟨h, _⟩ | ⟨g', c', cur, h, hbg, hg, hnc, hcm, hcs, htk⟩
  · cases h
  simp only [Value.slice.injEq, Option.some.injEq, Addr.mk.injEq, and_true, true_and] at h
  obtain ⟨rfl, rfl⟩ := h
  unfold maxLen at hcm
  have hgl : g < w.heap.size := (Array.getElem?_eq_some_iff.1 hg).1
  have hcl : cur.toList.length = c * 7 := by simpa using hcs
  have hxc : ∀ q u, xs[q]? = some u → cur[q]? = some u := fun q u hu => by
    rw [← htk, List.getElem?_take] at hu
    split at hu
    · simpa using hu
    · cases hu
  have G0 : Hid (w.heap[g]? = some (.cells cur.toList.toArray 56 (0, 0))) := by show _ = _; rw [Array.toArray_toList]; exact hg
  have HU : Hid (∀ (W : World), W.heap[B]? = w.heap[B]? → ∀ j v, us[j]? = some v → W.cell? ((⟨B, 0, none⟩ : Addr).add j) = some v) := fun W h => us_cells (h.trans hB)
  obtain ⟨vs, hvs⟩ : ∃ vs, xs.drop (i * 7) = vs := ⟨_, rfl⟩
  have hvl : vs.length = (n - i) * 7 := by rw [← hvs, List.length_drop, hxl]; omega
  have HV : Hid (∀ (W : World), W.heap[g]? = w.heap[g]? → ∀ j v, vs[j]? = some v → W.cell? ((⟨g, i * 7, none⟩ : Addr).add j) = some v) := fun W h j v hj => by
    rw [Addr.add_lit, cell_of_row (w := W) _ _ _ _ _ (h.trans hg)]
    rw [← hvs, List.getElem?_drop] at hj
    exact hxc _ _ hj
  have hv1 : Hid (∀ u ∈ vs, u.oneCell' = true) := fun u hu => hx1 u (by rw [← hvs] at hu; exact List.mem_of_mem_drop hu)
  have HU1 := Lib.hid hu1
  have hsa : w.shape? B = some (TB, 7) := by simp [World.shape?, hB, hul]
  have hsb : w.shape? g = some (56, c * 7) := by simp [World.shape?, hg, hcs]
  have hfr : ∀ q, w.frozen? ⟨B, q, none⟩ = false := fun q => (block_cells hB).2 q
  have hov : ∀ lb cb, (callFunc 144 #[.slice (some ⟨B, 0, none⟩) 1 1, .slice (some ⟨g, (i + 1) * 7, none⟩) lb cb]).run Try.prog w = .ok (.value (.bool false)) w := fun lb cb => by
    rw [run_callFunc_extern Try.func144 (by kernel_rfl) (by kernel_rfl) (by kernel_rfl) (e := Extern.SlicesOverlaps.overlaps #[47, 47] #[4]) (by kernel_rfl),
      Lib.run_overlaps_apart w 47 4 56 info_peers 7 sizeOf_peer ⟨B, 0, none⟩ ⟨g, (i + 1) * 7, none⟩ 1 1 lb cb hBg TB 56 7 (c * 7) hsa hsb (by omega) (hfr _) (hfr _)]
    rfl
  have hz3 : ¬ (c : Int) < (n : Int) + 1 := by omega
  have hz2' : ¬ ((i : Int) = (n : Int)) := by omega
  have hw1 : IntKind.i64.wrap ((i : Int) + 1) = (i : Int) + 1 := by rw [IntKind.wrap_i64]; omega
  have hb1 : (0 : Int) ≤ (i : Int) + 1 := by omega
  have hin : i ≤ n := by omega
  have htn : ((i : Int) + 1).toNat = i + 1 := by omega
  have hb2 : ¬ (c = i + 1) := by omega
  have hb3 : (i : Int) ≤ (n : Int) + 1 := by omega
  have hb4 : ¬ (c = i) := by omega
  have X1 := Lib.hid hcl
  have X2 := Lib.hid hul
  have X3 := Lib.hid hvl
  have X4 := Lib.hid (show cur.toList.take (i * 7) = xs.take (i * 7) by rw [← htk, List.take_take, Nat.min_eq_left (by omega)])
  have X6 := Lib.hid hvs
  have BBg := Lib.hid hBg
  clear own hx1 hu1 hB hxc hcl hvl hul htk hg hvs hsa hsb hfr hBg hcs
  go_enter Try.func106, Try.ntmps106
  go_wp2_with fail
  go_region_law (refine step_copy_spliceK rfl _ _ 47 47 rfl 56 7 (by omega) info_peers info_peerS (some ⟨g, (i + 1) * 7, none⟩) (some ⟨g, i * 7, none⟩) (n + 1 - (i + 1)) (c - (i + 1)) (n + 1 - i) (c - i) (by simp [Act.eval, Act.put]) (by simp [Act.eval, Act.put]) g ((i + 1) * 7) _ _ G0.out vs (by rw [X3.out]; simp only [Nat.min_def]; split <;> omega) (fun _ => ⟨rfl, _, rfl, HV.out _ rfl⟩) (by have := X1.out; have := X3.out; omega) hv1.out ?_; intro W3 G3 O3)
  have BB3 : Hid (W3.heap[B]? = w.heap[B]?) := O3.out.block B BBg.out
  have hl3 : Hid ((splice cur.toList ((i + 1) * 7) vs).length = c * 7) := by show _ = _; rw [length_splice _ _ _ (by have := X1.out; have := X3.out; omega)]; exact X1.out
  go_wp2_with (refine wpList_copy_spliceK rfl _ _ 47 47 rfl 56 7 (by omega) info_peers info_peerS _ _ _ _ _ _ rfl rfl g (i * 7) (splice cur.toList ((i + 1) * 7) vs) _ G3.out us (by rw [X2.out]; simp only [Nat.min_def]; split <;> omega) (fun _ => ⟨rfl, _, rfl, HU.out _ BB3.out⟩) (by have := hl3.out; have := X2.out; omega) HU1.out ?_; intro W4 G4 O4)
  go_simp
  go_wp2_with fail
  go_ret
  have hl4 := length_splice (splice cur.toList ((i + 1) * 7) vs) (i * 7) us (by have := hl3.out; have := X2.out; omega)
  have hrow : (splice (splice cur.toList ((i + 1) * 7) vs) (i * 7) us).take ((n + 1) * 7) = xs.take (i * 7) ++ us ++ xs.drop (i * 7) := by
    have h := ins_room (l := cur.toList) (us := us) (vs := vs) (a := i * 7) (b := (i + 1) * 7) (by have := X2.out; omega) (by have := X1.out; have := X3.out; omega)
    rw [X3.out, X4.out, show (i + 1) * 7 + (n - i) * 7 = (n + 1) * 7 by omega] at h
    rw [h, X6.out]
  refine ⟨some ⟨g, 0, none⟩, c, rfl, ⟨?_, .inr ⟨g, c, _, rfl, hbg, G4.out, by omega, by unfold maxLen; omega, by have := hl3.out; simp; omega, by simpa using hrow⟩⟩, ?_⟩
  · have h := congrArg List.length hrow
    rw [List.length_take] at h
    have := hl3.out
    simp only [List.append_assoc] at h ⊢
    omega
  · exact grown_trans (grown_trans (grown_below (Below.drew (Below.refl _ w))) O3.out.grown) O4.out.grown
/-- One peer goes in at i. -/
theorem insP_ok (A : Option Addr) (n c i B base : Nat) (xs us : List Value) (TB : TypeId) (w : World) (own : w.ownsRow base 56 7 (.slice A n c) n xs) (hx1 : ∀ u ∈ xs, u.oneCell' = true) (hul : us.length = 7) (hu1 : ∀ u ∈ us, u.oneCell' = true)
    (hB : w.heap[B]? = some (.cells us.toArray TB (0, 0))) (hBg : (Value.slice A n c).ownBlock ≠ some B) (hi : i ≤ n) (hn : n ≤ 1000) (hbase : base ≤ w.heap.size) :
    Calls Try.prog 106 #[.slice A n c, .int .i64 i, .slice (some ⟨B, 0, none⟩) 1 1] w fun e w' => ∃ A' c', e = .returned (.slice A' (n + 1) c') ∧ w'.ownsRow base 56 7 (.slice A' (n + 1) c') (n + 1) (xs.take (i * 7) ++ us ++ xs.drop (i * 7)) ∧ w.grownBy w' (Value.slice A n c).ownBlock := by
  have hxl := own.1
  rcases Nat.eq_or_lt_of_le hi with h | h
  · subst h
    refine (insP_end A i c B base xs us TB w own hul hu1 hB hn hbase).mono ?_
    rintro e w' ⟨A', c', rfl, h1, h2⟩
    refine ⟨A', c', rfl, ?_, h2⟩
    rw [List.take_of_length_le (by omega), List.drop_of_length_le (by omega), List.append_nil]
    exact h1
  · obtain ⟨g, cap, hv, _, _⟩ := own.form (by omega)
    have own' := own
    simp only [Value.slice.injEq] at hv
    obtain ⟨rfl, -, rfl⟩ := hv
    obtain ⟨_, _, hfv, hnc, _, _⟩ := own_form own
    simp only [Value.slice.injEq, true_and] at hfv
    obtain ⟨-, rfl⟩ := hfv
    rcases Nat.eq_or_lt_of_le hnc with hc | hc
    · subst hc
      refine (insP_grow g n i B base xs us TB w own hx1 hul hu1 hB h hn hbase).mono ?_
      rintro e w' ⟨A', c', rfl, h1, h2⟩
      exact ⟨A', c', rfl, h1, grown_below h2⟩
    · exact insP_room g n c i B base xs us TB w own hx1 hul hu1 hB (fun e => hBg (by rw [e]; rfl)) h hn hc
end Go.Proofs.Ytpomdnglknbanaa

/-
  slices.Delete of one element of a row of the call's own, at structs.
-/
import Derived.Test.YtpomdnglknbanaaCs
import Derived.Test.YtpomdnglknbanaaPo
import Derived.Test.YtpomdnglknbanaaGr
import Derived.Deep.RegionLaw
set_option linter.unusedSimpArgs false
set_option linter.unusedVariables false
namespace Go.Proofs.Ytpomdnglknbanaa
open Go.RowKit

theorem setCells_at {g : Nat} {t : TypeId} {fz : Nat × Nat} : ∀ (vs : List Value) (o : Nat) (cur : List Value) (w : World), w.heap[g]? = some (.cells cur.toArray t fz) → o + vs.length ≤ cur.length → (w.setCells g o vs).heap[g]? = some (.cells (splice cur o vs).toArray t fz)
  | [], o, cur, w, h, _ => by simpa [splice, World.setCells] using h
  | v :: r, o, cur, w, h, hl => by
    rw [World.setCells]
    have h1 : (w.setCell ⟨g, o, none⟩ v).heap[g]? = some (.cells (cur.set o v).toArray t fz) := by
      simp [World.setCell, Array.getElem?_modify, h]
    simp only [List.length_cons] at hl
    have h2 := setCells_at r (o + 1) (cur.set o v) _ h1 (by rw [List.length_set]; omega)
    rw [h2]
    congr 3
    have ho : o < cur.length := by omega
    unfold splice
    rw [List.take_succ_eq_append_getElem (by rw [List.length_set]; omega), List.getElem_set_self, List.take_set_of_le (Nat.le_refl o), List.drop_set_of_lt (by omega), List.append_assoc]
    simp [Nat.add_comm, Nat.add_left_comm]
theorem setCells_only {g : Nat} : ∀ (vs : List Value) (o : Nat) (w : World), OnlyAt g w (w.setCells g o vs)
  | [], _, _ => ⟨rfl, rfl, rfl, rfl, fun _ _ => rfl⟩
  | v :: r, o, w => by
    rw [World.setCells]
    have h := setCells_only (g := g) r (o + 1) (w.setCell ⟨g, o, none⟩ v)
    exact ⟨h.size.trans (by simp), h.os, h.tape, h.output, fun k hk => (h.block k hk).trans (Below.heap_setCell _ _ _ _ hk)⟩
theorem splice_take {l : List Value} {o : Nat} {vs : List Value} (h : o ≤ l.length) (k : Nat) : (splice l o vs).take (o + k) = l.take o ++ (vs ++ l.drop (o + vs.length)).take k := by
  unfold splice
  rw [List.take_append, List.length_take, Nat.min_eq_left h, List.take_of_length_le (by rw [List.length_take]; omega), show o + k - o = k by omega]
theorem info_peerS : (Try.prog.info? 56).map (·.size) = some 7 := by kernel_rfl
def zeroP : Value := .agg #[.string ⟨#[]⟩, .int .i64 0, .int .i64 0, .int .i64 0, .int .i64 0, .slice none 0 0, .int .i64 0]
theorem zeroP_cells : zeroP.cells.size = 7 := rfl
theorem zeroP_one : ∀ v ∈ zeroP.cells, v.oneCell' = true := by
  intro v hv
  simp [zeroP, Value.cells] at hv
  rcases hv with rfl | rfl | rfl | rfl <;> rfl
theorem zeroP_run : ∀ w, (zeroValue 56).run Try.prog w = .ok zeroP w := Try.zeroValue56
--BEGIN
set_option maxRecDepth 100000 in
set_option maxHeartbeats 4000000 in
theorem delP_ok (g n c i base : Nat) (xs : List Value) (w : World) (own : w.ownsRow base 56 7 (.slice (some ⟨g, 0, none⟩) n c) n xs) (hxs : ∀ u ∈ xs, u.oneCell' = true) (hi : i < n) (hn : n ≤ 1000000) :
    Calls Try.prog 108 #[.slice (some ⟨g, 0, none⟩) n c, .int .i64 i, .int .i64 ((i + 1 : Nat) : Int)] w fun e w' => e = .returned (.slice (some ⟨g, 0, none⟩) (n - 1) c) ∧ w'.ownsRow base 56 7 (.slice (some ⟨g, 0, none⟩) (n - 1) c) (n - 1) (xs.take (i * 7) ++ xs.drop ((i + 1) * 7)) ∧ w.grownBy w' (some g) := by
  have hxl := own.1
  rcases own.2 with ⟨h, _⟩ | ⟨g', c', cur, h, hbg, hg, hnc, hcm, hcs, htk⟩
  · cases h
  simp only [Value.slice.injEq, Option.some.injEq, Addr.mk.injEq, and_true, true_and] at h
  obtain ⟨rfl, rfl⟩ := h
  unfold maxLen at hcm
  obtain ⟨m, hm⟩ : ∃ m, n = i + 1 + m := ⟨n - i - 1, by omega⟩
  obtain ⟨j, hj⟩ : ∃ j, i + 1 = j := ⟨_, rfl⟩
  obtain ⟨news, hnews⟩ : ∃ news, xs.drop ((i + 1) * 7) = news := ⟨_, rfl⟩
  have hnl : news.length = m * 7 := by rw [← hnews, List.length_drop, hxl]; omega
  have hcl : cur.toList.length = c * 7 := by simpa using hcs
  have hcurj : ∀ t u, news[t]? = some u → cur[j * 7 + t]? = some u := fun t u hu => by
    rw [← hnews, List.getElem?_drop, ← htk, List.getElem?_take] at hu
    split at hu
    · rw [hj] at hu; simpa using hu
    · cases hu
  have hcell : ∀ q, w.drew.cell? ⟨g, q, none⟩ = cur[q]? := fun q => cell_of_row (w := w) _ _ _ _ _ hg
  have hfz : ∀ q, w.drew.frozen? ⟨g, q, none⟩ = false := fun q => by show w.frozen? _ = false; simp [World.frozen?, hg]
  obtain ⟨Ad, hA, hsrc⟩ : ∃ Ad : Addr, (if c = j then some (⟨g, 0, none⟩ : Addr) else some ⟨g, j * 7, none⟩) = some Ad ∧ Hid (∀ t u, news[t]? = some u → w.drew.cell? (Ad.add t) = some u) := by
    by_cases h : c = j
    · refine ⟨⟨g, 0, none⟩, by simp [h], fun t u hu => ?_⟩
      have h0 : news.length = 0 := by rw [hnl]; omega
      rw [List.length_eq_zero_iff.1 h0] at hu
      simp at hu
    · refine ⟨⟨g, j * 7, none⟩, by simp [h], fun t u hu => ?_⟩
      rw [Addr.add_lit, hcell]
      exact hcurj t u hu
  have s1 : Hid (news.length = m * 7) := hnl
  have s2 : Hid (∀ u ∈ news, u.oneCell' = true) := fun u hu => hxs u (by rw [← hnews] at hu; exact List.mem_of_mem_drop hu)
  have s3 : Hid (∀ t, t < news.length → (w.drew.cell? ⟨g, 0 + i * 7 + t, none⟩).isSome = true ∧ w.drew.frozen? ⟨g, 0 + i * 7 + t, none⟩ = false) := fun t ht => by
    rw [hnl] at ht
    refine ⟨?_, hfz _⟩
    rw [hcell, Nat.zero_add, Array.getElem?_eq_getElem (by omega)]; rfl
  obtain ⟨W1, hW1⟩ : ∃ W1, W1 = w.drew.setCells g (0 + i * 7) news := ⟨_, rfl⟩
  have hg1 : w.drew.heap[g]? = some (.cells cur.toList.toArray 56 (0, 0)) := by rw [Array.toArray_toList]; exact hg
  have G1 : Hid (W1.heap[g]? = some (.cells (splice cur.toList (i * 7) news).toArray 56 (0, 0))) := by
    have := setCells_at news (0 + i * 7) cur.toList w.drew hg1 (by rw [hnl, hcl]; omega)
    show W1.heap[g]? = _
    rw [hW1, this, Nat.zero_add]
  have only1 := setCells_only (g := g) news (0 + i * 7) w.drew
  rw [← hW1] at only1
  have GR1 : Hid (w.grownBy W1 (some g)) := ⟨only1.os, only1.tape, only1.output, Nat.le_of_eq only1.size.symm, fun k _ hk => only1.block k (fun e => hk (by rw [e]))⟩
  have s4 : (splice cur.toList (i * 7) news).length = c * 7 := by rw [length_splice _ _ _ (by rw [hnl, hcl]; omega), hcl]
  have hW : Hid (W1 = w.drew.setCells g (0 + i * 7) news) := hW1
  have hic : i ≤ c := by omega
  have hjc : j ≤ c := by omega
  have hjn : j ≤ n := by omega
  have hij : ¬ i = j := by omega
  have hij2 : i ≤ j := by omega
  have hne : ((i : Int) == (j : Int)) = false := by simp; omega
  have e1 : n - j = m := by omega
  have e2 : c - i - 1 = c - j := by omega
  obtain ⟨i0, hi0, hz0, hz1, hz2⟩ := info_parts info_peer
  have HTk : Hid (cur.toList.take (n * 7) = xs) := htk
  have HSp : Hid ((splice cur.toList (i * 7) news).take ((n - 1) * 7) = xs.take (i * 7) ++ news) := by
    show _ = _
    rw [show (n - 1) * 7 = i * 7 + m * 7 by omega, splice_take (by omega), List.take_append_of_le_length (by omega), List.take_of_length_le (l := news) (by omega), ← htk, List.take_take, Nat.min_eq_left (by omega)]
  have X1 := Lib.hid hnews
  have X2 := Lib.hid hcl
  have X3 := Lib.hid hcs
  have X4 := Lib.hid hj
  have X5 := Lib.hid hm
  rw [hj]
  clear hW1 own hcurj hcell hfz hg hg1 htk hnews hxs hnl hcl hcs only1 hxl hj hm
  obtain ⟨W2, hcl2, G2, only2⟩ := run_clear_splice (P := Try.prog) W1 47 0 56 zeroP 7 info_peers zeroP_run zeroP_cells zeroP_one (by omega) (some ⟨g, (i + m) * 7, none⟩) (n - (i + m)) (c - (i + m)) g ((i + m) * 7) _ _ G1.out (fun _ => rfl) (by have := X5.out; omega)
  have G2' := Lib.hid G2
  have GR2 := Lib.hid (grown_trans GR1.out only2.grown)
  clear G2 only2
  go_enter Try.func108, Try.ntmps108
  go_wp2_with fail
  go_region_law (refine step_append_room rfl (.tmp 22) (.tmp 25) 47 rfl 56 i0 7 info_peers hi0 hz1 g 0 i c (by simp [Act.eval, Act.put]) Ad m (c - j) news (by simp [Act.eval, Act.put, *]) s1.out hsrc.out s2.out (by omega) s3.out ?_; rw [← hW.out])
  all_goals
    go_wp2_with fail
    go_ret
    have hm := X5.out
    have hcl := X2.out
    have hsl := length_splice (splice cur.toList (i * 7) news) ((i + m) * 7) (zeros zeroP.cells (n - (i + m))) (by rw [zeros_len, zeroP_cells, s4]; omega)
    have hrs : (splice (splice cur.toList (i * 7) news) ((i + m) * 7) (zeros zeroP.cells (n - (i + m)))).take ((n - 1) * 7) = xs.take (i * 7) ++ xs.drop (j * 7) := by
      rw [show (n - 1) * 7 = (i + m) * 7 + 0 by omega, splice_take (by omega), List.take_zero, List.append_nil, show (i + m) * 7 = (n - 1) * 7 by omega, HSp.out, ← X1.out, X4.out]
    refine ⟨by rw [show n - 1 = i + m by omega]; rfl, ⟨?_, .inr ⟨g, c, _, rfl, hbg, G2'.out, by omega, by unfold maxLen; omega, by simpa [s4] using hsl, by simpa using hrs⟩⟩, GR2.out⟩
    rw [← hrs, List.length_take, hsl, s4]; omega
--END
end Go.Proofs.Ytpomdnglknbanaa

/-
  slices.Delete at strings; (*Town).Lose.
-/
import Derived.Test.YtpomdnglknbanaaTe
import Derived.Deep.RegionLaw
import Derived.Deep.AppendLies
set_option linter.unusedSimpArgs false
set_option linter.unusedVariables false
namespace Go.Proofs.Ytpomdnglknbanaa
open Go Go.RowKit
def zeroT : Value := .string ⟨#[]⟩
theorem zeroT_cells : zeroT.cells.size = 1 := rfl
theorem zeroT_one : ∀ v ∈ zeroT.cells, v.oneCell' = true := by
  intro v hv
  simp [zeroT, Value.cells] at hv
  subst hv
  rfl
theorem zeroT_run : ∀ w, (zeroValue 9).run Try.prog w = .ok zeroT w := Try.zeroValue9
set_option maxRecDepth 100000 in
set_option maxHeartbeats 8000000 in
theorem delStr_ok (g n c i base : Nat) (xs : List Value) (w : World) (own : w.ownsRow base 9 1 (.slice (some ⟨g, 0, none⟩) n c) n xs) (hxs : ∀ u ∈ xs, u.oneCell' = true) (hi : i < n) (hn : n ≤ 1000000) :
    Calls Try.prog 123 #[.slice (some ⟨g, 0, none⟩) n c, .int .i64 i, .int .i64 ((i + 1 : Nat) : Int)] w fun e w' => e = .returned (.slice (some ⟨g, 0, none⟩) (n - 1) c) ∧ w'.ownsRow base 9 1 (.slice (some ⟨g, 0, none⟩) (n - 1) c) (n - 1) (xs.take (i * 1) ++ xs.drop ((i + 1) * 1)) ∧ w.grownBy w' (some g) := by
  have hxl := own.1
  rcases own.2 with ⟨h, _⟩ | ⟨g', c', cur, h, hbg, hg, hnc, hcm, hcs, htk⟩
  · cases h
  simp only [Value.slice.injEq, Option.some.injEq, Addr.mk.injEq, and_true, true_and] at h
  obtain ⟨rfl, rfl⟩ := h
  unfold maxLen at hcm
  obtain ⟨m, hm⟩ : ∃ m, n = i + 1 + m := ⟨n - i - 1, by omega⟩
  obtain ⟨j, hj⟩ : ∃ j, i + 1 = j := ⟨_, rfl⟩
  obtain ⟨news, hnews⟩ : ∃ news, xs.drop ((i + 1) * 1) = news := ⟨_, rfl⟩
  have hnl : news.length = m * 1 := by rw [← hnews, List.length_drop, hxl]; omega
  have hcl : cur.toList.length = c * 1 := by simpa using hcs
  have hcurj : ∀ t u, news[t]? = some u → cur[j + t]? = some u := fun t u hu => by
    rw [← hnews, List.getElem?_drop, ← htk, List.getElem?_take] at hu
    split at hu
    · rw [hj] at hu; simpa using hu
    · cases hu
  have hcell : ∀ q, w.drew.cell? ⟨g, q, none⟩ = cur[q]? := fun q => cell_of_row (w := w) _ _ _ _ _ hg
  have hfz : ∀ q, w.drew.frozen? ⟨g, q, none⟩ = false := fun q => by show w.frozen? _ = false; simp [World.frozen?, hg]
  obtain ⟨Ad, hA, hsrc⟩ : ∃ Ad : Addr, (if c = j then some (⟨g, 0, none⟩ : Addr) else some ⟨g, j, none⟩) = some Ad ∧ Hid (∀ t u, news[t]? = some u → w.drew.cell? (Ad.add t) = some u) := by
    by_cases h : c = j
    · refine ⟨⟨g, 0, none⟩, by simp [h], fun t u hu => ?_⟩
      have h0 : news.length = 0 := by rw [hnl]; omega
      rw [List.length_eq_zero_iff.1 h0] at hu
      simp at hu
    · refine ⟨⟨g, j, none⟩, by simp [h], fun t u hu => ?_⟩
      rw [Addr.add_lit, hcell]
      exact hcurj t u hu
  have s1 : Hid (news.length = m * 1) := hnl
  have s2 : Hid (∀ u ∈ news, u.oneCell' = true) := fun u hu => hxs u (by rw [← hnews] at hu; exact List.mem_of_mem_drop hu)
  have s3 : Hid (∀ t, t < news.length → (w.drew.cell? ⟨g, 0 + i * 1 + t, none⟩).isSome = true ∧ w.drew.frozen? ⟨g, 0 + i * 1 + t, none⟩ = false) := fun t ht => by
    rw [hnl] at ht
    refine ⟨?_, hfz _⟩
    rw [hcell, Nat.zero_add, Array.getElem?_eq_getElem (by omega)]; rfl
  obtain ⟨W1, hW1⟩ : ∃ W1, W1 = w.drew.setCells g (0 + i * 1) news := ⟨_, rfl⟩
  have hg1 : w.drew.heap[g]? = some (.cells cur.toList.toArray 9 (0, 0)) := by rw [Array.toArray_toList]; exact hg
  have G1 : Hid (W1.heap[g]? = some (.cells (splice cur.toList (i * 1) news).toArray 9 (0, 0))) := by
    have := setCells_at news (0 + i * 1) cur.toList w.drew hg1 (by rw [hnl, hcl]; omega)
    show W1.heap[g]? = _
    rw [hW1, this, Nat.zero_add]
  have only1 := setCells_only (g := g) news (0 + i * 1) w.drew
  rw [← hW1] at only1
  have GR1 : Hid (w.grownBy W1 (some g)) := ⟨only1.os, only1.tape, only1.output, Nat.le_of_eq only1.size.symm, fun k _ hk => only1.block k (fun e => hk (by rw [e]))⟩
  have s4 : (splice cur.toList (i * 1) news).length = c * 1 := by rw [length_splice _ _ _ (by rw [hnl, hcl]; omega), hcl]
  have hW : Hid (W1 = w.drew.setCells g (0 + i * 1) news) := hW1
  have hic : i ≤ c := by omega
  have hjc : j ≤ c := by omega
  have hjn : j ≤ n := by omega
  have hij : ¬ i = j := by omega
  have hij2 : i ≤ j := by omega
  have hne : ((i : Int) == (j : Int)) = false := by simp; omega
  have e1 : n - j = m := by omega
  have e2 : c - i - 1 = c - j := by omega
  obtain ⟨i0, hi0, hz0, hz1, hz2⟩ := info_parts info_str
  have HTk : Hid (cur.toList.take (n * 1) = xs) := htk
  have HSp : Hid ((splice cur.toList (i * 1) news).take ((n - 1) * 1) = xs.take (i * 1) ++ news) := by
    show _ = _
    rw [show (n - 1) * 1 = i * 1 + m * 1 by omega, splice_take (by omega), List.take_append_of_le_length (by omega), List.take_of_length_le (l := news) (by omega), ← htk, List.take_take, Nat.min_eq_left (by omega)]
  have X1 := Lib.hid hnews
  have X2 := Lib.hid hcl
  have X3 := Lib.hid hcs
  have X4 := Lib.hid hj
  have X5 := Lib.hid hm
  rw [hj]
  clear hW1 own hcurj hcell hfz hg hg1 htk hnews hxs hnl hcl hcs only1 hxl hj hm
  obtain ⟨W2, hcl2, G2, only2⟩ := run_clear_splice (P := Try.prog) W1 35 0 9 zeroT 1 Try.underlying35 zeroT_run zeroT_cells zeroT_one (by omega) (some ⟨g, i + m, none⟩) (n - (i + m)) (c - (i + m)) g (i + m) _ _ G1.out (fun _ => rfl) (by have := X5.out; omega)
  have G2' := Lib.hid G2
  have GR2 := Lib.hid (grown_trans GR1.out only2.grown)
  clear G2 only2
  go_enter Try.func123, Try.ntmps123
  go_wp2_with fail
  go_region_law (refine step_append_room rfl (.tmp 22) (.tmp 25) 35 rfl 9 i0 1 Try.underlying35 hi0 hz1 g 0 i c (by simp [Act.eval, Act.put]) Ad m (c - j) news (by simp [Act.eval, Act.put, *]) s1.out hsrc.out s2.out (by omega) s3.out ?_; rw [← hW.out])
  all_goals
    go_wp2_with fail
    go_ret
    have hm := X5.out
    have hcl := X2.out
    have hsl := length_splice (splice cur.toList (i * 1) news) (i + m) (zeros zeroT.cells (n - (i + m))) (by rw [zeros_len, zeroT_cells, s4]; omega)
    have hrs : (splice (splice cur.toList (i * 1) news) (i + m) (zeros zeroT.cells (n - (i + m)))).take ((n - 1) * 1) = xs.take (i * 1) ++ xs.drop (j * 1) := by
      rw [show (n - 1) * 1 = (i + m) + 0 by omega, splice_take (by omega), List.take_zero, List.append_nil, show i + m = (n - 1) * 1 by omega, HSp.out, ← X1.out, X4.out]
    refine ⟨by rw [show n - 1 = i + m by omega]; rfl, ⟨?_, .inr ⟨g, c, _, rfl, hbg, G2'.out, by omega, by unfold maxLen; omega, by have := hsl.trans s4; simpa using this, by simpa using hrs⟩⟩, GR2.out⟩
    rw [← hrs, List.length_take, hsl, s4]; omega
theorem erase_map (L : List ByteArray) (k : Nat) : (L.map Value.string).take (k * 1) ++ (L.map Value.string).drop ((k + 1) * 1) = (L.eraseIdx k).map Value.string := by
  rw [List.eraseIdx_eq_take_drop_succ, Nat.mul_one, Nat.mul_one, List.map_append, List.map_take, List.map_drop]
set_option maxRecDepth 100000 in
set_option maxHeartbeats 8000000 in
theorem tlose_ok {t i : Nat} {S : TSt} {f : Nat → Prop} (w : World) (h : TRep w t S f) (hi : i < S.way.length) (hw : S.way.length ≤ 1000) :
    Calls Try.prog 69 #[.pointer (some ⟨t, 0, none⟩), .int .i64 i] w fun e w' => e = .returned (.int .i64 0) ∧ (∃ f', TRep w' t (wayN S (S.way.eraseIdx i)) f' ∧ ∀ x, f' x → f x) ∧ Kept f w w' := by
  obtain ⟨c, ga, gn, gd, ca, cn, cd, wv, bs, h⟩ := h
  obtain ⟨_, k1, k2, k3, kf⟩ := h.cells
  have hl := h.lt
  have ft := h.ft
  have tl := hl t ft
  obtain ⟨gw, cw, rfl, wl, _⟩ := h.wayAt hi
  have own := h.way
  have hwb : f gw ∧ c gw = 4 := by obtain ⟨_, _, _, _, _, _, _, _, _, h10, _⟩ := h; exact h10 gw rfl
  have htc : c t = 0 := by obtain ⟨_, _, _, _, _, _, _, _, h9, _⟩ := h; exact h9.1
  have HDe := Lib.hid (delStr_ok gw S.way.length cw i 0 _ w own (strs_one _) hi (by omega))
  rw [erase_map] at HDe
  have hle : (S.way.eraseIdx i).length = S.way.length - 1 := by rw [List.length_eraseIdx, if_pos hi]
  have HRep := Lib.hid h
  have HL := Lib.hid (And.intro hl (And.intro ft (And.intro hwb hle)))
  obtain ⟨m, hm⟩ : ∃ m, S.way.length = m := ⟨_, rfl⟩
  rw [hm] at k3 hi hw HDe
  have HM := Lib.hid hm
  have i0 : ¬ (i : Int) < 0 := by omega
  have i1 : (i : Int) < m := by omega
  have i2 : decide ((m : Int) ≤ i) = false := by simp; omega
  have iw : IntKind.i64.wrap ((i : Int) + 1) = ((i + 1 : Nat) : Int) := by rw [IntWalk.i64_in _ (by omega)]; omega
  have hne : t ≠ gw := fun e => by rw [e] at htc; omega
  clear h own hl ft hwb htc hle hm
  go_enter Try.func69, Try.ntmps69
  go_wp2_with fail
  refine HDe.out.mono ?_
  rintro e w1 ⟨rfl, own1, gr1⟩
  have z1 := gr1.size
  have e3 : w1.cell? ⟨t, 3, none⟩ = some (.slice (some ⟨gw, 0, none⟩) m cw) := (World.cell?_of_block (a := ⟨t, 3, none⟩) (gr1.block t tl (fun e => hne (by simpa using e)))).trans k3
  have ef : ∀ o, w1.frozen? ⟨t, o, none⟩ = false := fun o => (World.frozen?_of_block (gr1.block t tl (fun e => hne (by simpa using e)))).trans (kf o)
  have HS := Lib.hid (HRep.out.setWay (w1 := w1) (L := S.way.eraseIdx i) (v := .slice (some ⟨gw, 0, none⟩) (m - 1) cw) (M := w.heap.size) ⟨z1, fun x hx hfx => gr1.block x hx (fun e => by
    simp only [Option.some.injEq] at e
    subst e
    exact hfx.2 HL.out.2.2.1.2)⟩ ⟨Nat.le_refl _, z1⟩ (by rw [HL.out.2.2.2, HM.out]; exact own1) (fun q hq => .inl hq))
  have K1 : Kept f w (w1.setCell ⟨t, 3, none⟩ (.slice (some ⟨gw, 0, none⟩) (m - 1) cw)) := ⟨gr1.os, gr1.tape, gr1.output, by simpa using z1, fun x hx hfx => (Below.heap_setCell _ _ _ _ (fun e => hfx (by rw [show x = t from e]; exact HL.out.2.1))).trans (gr1.block x hx (fun e => hfx (by simp only [Option.some.injEq] at e; subst e; exact HL.out.2.2.1.1)))⟩
  have HK := Lib.hid K1
  clear own1 gr1 K1
  go_wp2_with fail
  go_ret
  exact ⟨rfl, ⟨_, ⟨_, _, _, _, _, _, _, _, _, HS.out⟩, fun x hx => hx.elim (fun h => h) (fun h => by omega)⟩, HK.out⟩
end Go.Proofs.Ytpomdnglknbanaa

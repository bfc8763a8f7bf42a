import Derived.Test.YtlnagfmaiabhaaaLw
import Derived.Test.YtlnagfmaiabhaaaPu2
import Derived.Test.YtlnagfmaiabhaaaAp
import Derived.Test.YtlnagfmaiabhaaaQM
set_option linter.unusedSimpArgs false
set_option linter.unusedVariables false
namespace Go.Proofs.Ytlnagfmaiabhaaa
open Go Go.RowKit
theorem own_setFar {w : World} {B e s n : Nat} {v : Value} {xs : List Value} (h : w.ownsRow B e s v n xs) {b : Nat} (hb : v.ownBlock ≠ some b) (o : Nat) (u : Value) : (w.setCell ⟨b, o, none⟩ u).ownsRow B e s v n xs := by
  refine ⟨h.1, h.2.imp id fun ⟨g, cap, cur, h1, h2, h3, h4⟩ => ⟨g, cap, cur, h1, h2, ?_, h4⟩⟩
  have : ¬ b = g := fun e => hb (by rw [h1]; simp [Value.ownBlock, e])
  simp [World.setCell, Array.getElem?_modify, this, h3]
theorem sum_moved (B : Int) (l : List Int) : sumI (l.map (· + B)) = sumI l + l.length * B ∧ sqI (l.map (· + B)) = sqI l + 2 * B * sumI l + l.length * (B * B) := by
  induction l with
  | nil => simp [sumI, sqI]
  | cons x l ih => simp only [List.map_cons, sumI, sqI, List.length_cons, ih.1, ih.2, Int.natCast_add]; constructor <;> grind
theorem sum_times (C : Int) (l : List Int) : sumI (l.map (· * C)) = sumI l * C ∧ sqI (l.map (· * C)) = sqI l * (C * C) := by
  induction l with
  | nil => simp [sumI, sqI]
  | cons x l ih => simp only [List.map_cons, sumI, sqI, ih.1, ih.2]; constructor <;> grind
theorem lfl_times {n X L C : Int} (hC : 1 ≤ C) : lfl n (X * (C * C)) (L * C) = lfl n X L * (C * C) := by
  have cc : 0 < C * C := Int.mul_pos (by omega) (by omega)
  have e : n * n * (L * C) * (L * C) = n * n * L * L * (C * C) := by grind
  unfold lfl
  rw [e]
  by_cases h : X < n * n * L * L
  · rw [if_pos h, if_pos (Int.mul_lt_mul_of_pos_right h cc)]
  · rw [if_neg h, if_neg (fun h' => h (Int.lt_of_mul_lt_mul_right h' (by omega)))]
theorem late0_times {n S T C : Int} (hC : 1 ≤ C) : late0 n (S * C) (T * C) = late0 n S T * C := by
  have e : n * (T * C) - S * C = (n * T - S) * C := by grind
  unfold late0
  rw [e]
  by_cases h : 0 < n * T - S
  · rw [if_pos h, if_pos (Int.mul_pos h (by omega))]
  · rw [if_neg h, if_neg (fun h' => h (by
      rcases Int.lt_or_le 0 (n * T - S) with q | q
      · exact q
      · have := Int.mul_nonneg (a := -(n * T - S)) (b := C) (by omega) (by omega)
        rw [Int.neg_mul] at this; omega))]
    omega
theorem late0_moved {n S T B : Int} : late0 n (S + n * B) (T + B) = late0 n S T := by
  have e : n * (T + B) - (S + n * B) = n * T - S := by grind
  unfold late0
  rw [e]
/-- The three levels. -/
theorem moved_pack (zs : List Int) (m : Nat) (L T B C : Int) (hm : zs.length = m) (h1 : 1 ≤ m) (h2 : m ≤ 64) (hb : Btw 0 100000 zs) (hL : 1 ≤ L ∧ L ≤ 1000) (hT : 0 ≤ T ∧ T ≤ 100000) (hB : 0 ≤ B ∧ B ≤ 10000) (hC : 1 ≤ C ∧ C ≤ 100) :
    ∃ k : Int, Hid (∀ A c w', Row w' A m zs → Calls Try.prog 52 #[.agg #[.int .i64 64, .slice A m c], .int .i64 L, .int .i64 T] w' fun e w'' => e = .returned (.tuple #[.int .i64 k, .int .i64 0]) ∧ Below w'.heap.size w' w'') ∧
      Hid (∀ A c w', Row w' A m (zs.map (· + B)) → Calls Try.prog 52 #[.agg #[.int .i64 64, .slice A m c], .int .i64 L, .int .i64 (T + B)] w' fun e w'' => e = .returned (.tuple #[.int .i64 k, .int .i64 0]) ∧ Below w'.heap.size w' w'') ∧
      Hid (∀ A c w', Row w' A m (zs.map (· * C)) → Calls Try.prog 52 #[.agg #[.int .i64 64, .slice A m c], .int .i64 (L * C), .int .i64 (T * C)] w' fun e w'' => e = .returned (.tuple #[.int .i64 k, .int .i64 0]) ∧ Below w'.heap.size w' w'') := by
  have LC : 1 * 1 ≤ L * C ∧ L * C ≤ 1000 * 100 := ⟨Int.mul_le_mul hL.1 hC.1 (by omega) (by omega), Int.mul_le_mul hL.2 hC.2 (by omega) (by omega)⟩
  have TC : 0 ≤ T * C ∧ T * C ≤ 100000 * 100 := ⟨Int.mul_nonneg hT.1 (by omega), Int.mul_le_mul hT.2 hC.2 (by omega) (by omega)⟩
  have hb1 : Btw 0 16777216 zs := fun x hx => by have := hb x hx; omega
  have hb2 : Btw 0 16777216 (zs.map (· + B)) := fun x hx => by
    obtain ⟨y, hy, rfl⟩ := List.mem_map.1 hx
    have := hb y hy
    omega
  have hb3 : Btw 0 16777216 (zs.map (· * C)) := fun x hx => by
    obtain ⟨y, hy, rfl⟩ := List.mem_map.1 hx
    have := hb y hy
    have a := Int.mul_nonneg (a := y) (b := C) (by omega) (by omega)
    have b : y * C ≤ 100000 * 100 := Int.mul_le_mul (by omega) hC.2 (by omega) (by omega)
    omega
  have ok1 := sumsOK_of hb1 (by omega)
  have ok2 := sumsOK_of hb2 (by rw [List.length_map]; omega)
  have ok3 := sumsOK_of hb3 (by rw [List.length_map]; omega)
  obtain ⟨s1, s2⟩ := sum_moved B zs
  obtain ⟨t1, t2⟩ := sum_times C zs
  rw [List.length_map] at ok2 ok3
  rw [hm] at ok1 ok2 ok3 s1 s2
  have hX2 : (m : Int) * sqI (zs.map (· + B)) - sumI (zs.map (· + B)) * sumI (zs.map (· + B)) = m * sqI zs - sumI zs * sumI zs := by rw [s1, s2]; grind
  have hX3 : (m : Int) * sqI (zs.map (· * C)) - sumI (zs.map (· * C)) * sumI (zs.map (· * C)) = (m * sqI zs - sumI zs * sumI zs) * (C * C) := by rw [t1, t2]; grind
  have bd := ok1.bd
  have Nb := lfl_bd (n := m) (X := m * sqI zs - sumI zs * sumI zs) (L := L) (by omega) (by omega) (by omega)
  have Db := late0_bd (n := m) (S := sumI zs) (T := T) (by omega) (by omega) (by omega)
  obtain ⟨k, hk⟩ := levR_ex Nb Db
  refine ⟨k, Lib.hid fun A c w' h => level_ok 64 L T _ _ _ _ k A m c zs w' h (by omega) (by omega) (by omega) hb1 (by omega) (by omega) rfl rfl ok1 rfl rfl hk,
    Lib.hid fun A c w' h => level_ok 64 L (T + B) _ _ _ _ k A m c _ w' h (by omega) (by omega) (by omega) hb2 (by omega) (by omega) rfl rfl ok2 rfl rfl (by rw [hX2, s1, late0_moved]; exact hk),
    Lib.hid fun A c w' h => level_ok 64 (L * C) (T * C) _ _ _ _ k A m c _ w' h (by omega) (by omega) (by omega) hb3 (by omega) (by omega) rfl rfl ok3 rfl rfl (by rw [hX3, t1, lfl_times hC.1, late0_times hC.1]; exact hk.scale hC.1)⟩

/-- Two rows that grow beside each other. -/
def Two (s : Nat) (w0 W : World) (vb : Value) (nb : Nat) (xb : List Value) (vc : Value) (nc : Nat) (xc : List Value) : Prop :=
  W.ownsRow (s + 2) 3 1 vb nb xb ∧ W.ownsRow (s + 2) 3 1 vc nc xc ∧ Far2 vb vc ∧ Far2 vc vb ∧ Below (s + 2) w0 W ∧ s + 2 ≤ W.heap.size
theorem Far2.symm {v u : Value} (h : Far2 v u) : Far2 u v := fun g h1 h2 => h g h2 h1
theorem Two.alloc {s : Nat} {w0 W : World} {vb : Value} {nb : Nat} {xb : List Value} {vc : Value} {nc : Nat} {xc : List Value} (h : Two s w0 W vb nb xb vc nc xc) (o : Obj) : Two s w0 (W.alloc o) vb nb xb vc nc xc :=
  ⟨h.1.alloc o, h.2.1.alloc o, h.2.2.1, h.2.2.2.1, h.2.2.2.2.1.alloc h.2.2.2.2.2 o, by have := h.2.2.2.2.2; simp only [World.size_alloc]; omega⟩
theorem Two.appB {s : Nat} {w0 W w' : World} {vb : Value} {nb : Nat} {xb : List Value} {vc : Value} {nc : Nat} {xc : List Value} {g m m' cap : Nat} {ys : List Value} (h : Two s w0 W vb nb xb vc nc xc)
    (own : w'.ownsRow (s + 2) 3 1 (.slice (some ⟨g, 0, none⟩) m cap) m' ys) (gr : W.grownBy w' vb.ownBlock) (hat : vb.ownBlock = some g ∨ g = W.heap.size) : Two s w0 w' (.slice (some ⟨g, 0, none⟩) m cap) m' ys vc nc xc := by
  obtain ⟨a, b⟩ := own_beside2 (u' := .slice (some ⟨g, 0, none⟩) m cap) h.2.1 h.2.2.1 gr (fun g' e => by
    simp only [Value.ownBlock, Option.some.injEq] at e
    subst e
    rcases hat with h | h
    · exact .inl h
    · exact .inr (by rw [h]; exact Nat.le_refl _))
  exact ⟨own, a, b, b.symm, h.2.2.2.2.1.grown gr h.2.2.2.2.2 (fun g e => (h.1.lt g e).1), Nat.le_trans h.2.2.2.2.2 gr.size⟩
theorem Two.drew {s : Nat} {w0 W : World} {vb : Value} {nb : Nat} {xb : List Value} {vc : Value} {nc : Nat} {xc : List Value} (h : Two s w0 W vb nb xb vc nc xc) : Two s w0 W.drew vb nb xb vc nc xc :=
  ⟨h.1, h.2.1, h.2.2.1, h.2.2.2.1, h.2.2.2.2.1.drew, h.2.2.2.2.2⟩
theorem Two.flip {s : Nat} {w0 W : World} {vb : Value} {nb : Nat} {xb : List Value} {vc : Value} {nc : Nat} {xc : List Value} (h : Two s w0 W vb nb xb vc nc xc) : Two s w0 W vc nc xc vb nb xb :=
  ⟨h.2.1, h.1, h.2.2.2.1, h.2.2.1, h.2.2.2.2⟩

set_option maxRecDepth 100000 in
set_option maxHeartbeats 16000000 in
theorem levelMoved_walk (a : Option Addr) (len cap : Nat) (l : List Int) (p q r t : Int) (w : World) (hin : InRow w a len cap l) (_ : (Lit.int .i64 p).wf = true) (_ : (Lit.int .i64 q).wf = true) (_ : (Lit.int .i64 r).wf = true) (_ : (Lit.int .i64 t).wf = true) :
    Calls Try.prog 10 #[.slice a len cap, .int .i64 p, .int .i64 q, .int .i64 r, .int .i64 t] w fun e w' =>
      e = .returned (.bool true) ∧ Below w.heap.size w w' := by
  obtain ⟨hr, hcp, hmx, hnil⟩ := hin
  unfold maxLen at hmx
  have hll := hr.len
  obtain ⟨n, hn⟩ : ∃ n : Nat, min len 63 = n := ⟨_, rfl⟩
  have hmin : min (len : Int) 63 = (n : Int) := by omega
  have hnl : n ≤ len := by omega
  have nl' : (n : Int) ≤ len := by omega
  have nc' : (n : Int) ≤ cap := by omega
  have hn63 : n ≤ 63 := by omega
  obtain ⟨vs, hvs⟩ : ∃ vs, (l.take n).map (within · 100000) = vs := ⟨_, rfl⟩
  have hvn : vs.length = n := by rw [← hvs, List.length_map, List.length_take]; omega
  have hG : ∀ k, k < n → vs.getD k 0 = within (l.getD k 0) 100000 := fun k hk => by
    rw [← hvs]
    simp [List.getD, List.getElem?_take, hk, List.getElem?_eq_getElem (show k < l.length by omega)]
  have hvb : Btw 0 100000 (1 :: vs) := fun x hx => by
    rcases List.mem_cons.1 hx with rfl | hx
    · omega
    · rw [← hvs] at hx
      obtain ⟨y, hy, rfl⟩ := List.mem_map.1 hx
      have := within_bd y (n := 100000) (by omega)
      omega
  have b1 := within_bd p (n := 1000) (by omega)
  have b2 := within_bd q (n := 100000) (by omega)
  have b3 := within_bd r (n := 10000) (by omega)
  have b4 := within_bd t (n := 100) (by omega)
  obtain ⟨P, e_P⟩ : ∃ z_, within p 1000 = z_ := ⟨_, rfl⟩
  rw [e_P] at b1
  have HP := Lib.hid e_P
  clear e_P
  obtain ⟨T, e_T⟩ : ∃ z_, within q 100000 = z_ := ⟨_, rfl⟩
  rw [e_T] at b2
  have HT := Lib.hid e_T
  clear e_T
  obtain ⟨B, e_B⟩ : ∃ z_, within r 10000 = z_ := ⟨_, rfl⟩
  rw [e_B] at b3
  have HB := Lib.hid e_B
  clear e_B
  obtain ⟨U, e_U⟩ : ∃ z_, within t 100 = z_ := ⟨_, rfl⟩
  rw [e_U] at b4
  have HU := Lib.hid e_U
  clear e_U
  obtain ⟨lev, hl1, hl2, hl3⟩ := moved_pack (1 :: vs) (n + 1) (1 + P) T B (1 + U) (by simp [hvn]) (by omega) (by omega) hvb (by omega) (by omega) (by omega) (by omega)
  have HL := Lib.hid hvn
  have HG := Lib.hid hG
  have HVB := Lib.hid hvb
  have HR0 := Lib.hid hr
  have e1P : IntKind.i64.wrap (1 + P) = 1 + P := IntWalk.i64_in _ (by omega)
  have e1U : IntKind.i64.wrap (1 + U) = 1 + U := IntWalk.i64_in _ (by omega)
  have qa := alloc_cells
  have qf := alloc_frozens
  obtain ⟨i0, hi, hz0, hz1, hz2⟩ := info_parts info_int
  clear hr hll hn hvs hvn hG hvb hnil
  go_enter Try.func10, Try.ntmps10
  go_wp2_with fail
  refine (lbegun_ok _).mono ?_
  rintro e w1 ⟨rfl, hb1⟩
  have z1 := hb1.size
  have c1 := Below.cells hb1
  have f1 := Below.frozens hb1
  try simp only [World.size_alloc, World.size_setCell, World.size_drew] at z1 c1 f1
  go_wp2_with fail
  refine (within_any p 1000 P _ (by omega) (by omega) HP.out).mono ?_
  rintro e w' ⟨rfl, rfl⟩
  go_wp2_with fail
  refine (within_any q 100000 T _ (by omega) (by omega) HT.out).mono ?_
  rintro e w' ⟨rfl, rfl⟩
  go_wp2_with fail
  refine (within_any r 10000 B _ (by omega) (by omega) HB.out).mono ?_
  rintro e w' ⟨rfl, rfl⟩
  go_wp2_with fail
  refine (within_any t 100 U _ (by omega) (by omega) HU.out).mono ?_
  rintro e w' ⟨rfl, rfl⟩
  go_wp2_with fail
  have HB0 := Lib.hid (show ∀ k, k < n → ∃ b off, a = some ⟨b, off, none⟩ ∧ b < w1.heap.size ∧ w1.cell? ⟨b, off + k, none⟩ = some (.int .i64 (l.getD k 0)) from fun k hk => (HR0.out.below hb1).each k (by omega))
  have B1 := Lib.hid hb1
  obtain ⟨W, hW⟩ : ∃ W, (w1.alloc (.cells #[.int .i64 1] 3)).alloc (.cells #[.int .i64 64, .slice (some ⟨w1.heap.size, 0, none⟩) 1 1] 73) = W := ⟨_, rfl⟩
  have K0 : (w1.alloc (.cells #[.int .i64 1] 3)).heap.size = w1.heap.size + 1 := by simp
  have ka : W.cell? ⟨w1.heap.size + 1, 0, none⟩ = some (.int .i64 64) := by rw [← hW]; clear hW; simp [go_sem, ↓IntWalk.iteOmega, *]
  have kb : W.cell? ⟨w1.heap.size + 1, 1, none⟩ = some (.slice (some ⟨w1.heap.size, 0, none⟩) 1 1) := by rw [← hW]; clear hW; simp [go_sem, ↓IntWalk.iteOmega, *]
  have ke : ∀ o, W.frozen? ⟨w1.heap.size + 1, o, none⟩ = false := by intro o; rw [← hW]; clear hW; simp [go_sem, ↓IntWalk.iteOmega, *]
  have kf : Below w1.heap.size w1 W := by rw [← hW]; exact ((Below.refl _ _).alloc (Nat.le_refl _) _).alloc (by simp) _
  have kg : W.heap.size = w1.heap.size + 2 := by rw [← hW]; simp
  have ko : W.ownsRow w1.heap.size 3 1 (.slice (some ⟨w1.heap.size, 0, none⟩) 1 1) 1 ((1 :: vs.take 0).map (Value.int .i64)) := by rw [← hW]; exact (World.ownsRow_lit w1 #[.int .i64 1] 1 (Nat.le_refl _) (by unfold maxLen; omega) rfl).alloc _
  have HW := Lib.hid (⟨ka, kb, ke, kf, kg, ko⟩ : _ ∧ _ ∧ _ ∧ _ ∧ _ ∧ _)
  have hWW := hW
  clear ka kb ke kf kg ko K0 hW qa qf hb1
  rw [hWW]
  clear hWW
  go_loopw [44] (fun i wr => ∃ (k : Nat) (A7 : Option Addr) (c7 : Nat), k ≤ n ∧ i = .int .i64 k ∧ wr.ownsRow w1.heap.size 3 1 (.slice A7 (k + 1) c7) (k + 1) ((1 :: vs.take k).map (Value.int .i64)) ∧ (Value.slice A7 (k + 1) c7).ownBlock ≠ some (w1.heap.size + 1) ∧
    wr.cell? ⟨w1.heap.size + 1, 0, none⟩ = some (.int .i64 64) ∧ wr.cell? ⟨w1.heap.size + 1, 1, none⟩ = some (.slice A7 (k + 1) c7) ∧ (∀ o, wr.frozen? ⟨w1.heap.size + 1, o, none⟩ = false) ∧ Below w1.heap.size w1 wr ∧ w1.heap.size + 2 ≤ wr.heap.size) (fun i _ => n - (intOf i).toNat)
  case atStart => exact ⟨0, some ⟨w1.heap.size, 0, none⟩, 1, Nat.zero_le _, rfl, HW.out.2.2.2.2.2, by simp [Value.ownBlock], HW.out.1, HW.out.2.1, HW.out.2.2.1, HW.out.2.2.2.1, by have := HW.out.2.2.2.2.1; omega⟩
  case round =>
    obtain ⟨k, A7, c7, hk, rfl, hown, hfar, ka, kb, ke, bel, hsz⟩ := hrel
    by_cases hlt : k < n
    · obtain ⟨bkx, offx, hAx, ltx, hrx⟩ := HB0.out k hlt
      subst hAx
      replace hrx := (bel.cell (p := ⟨bkx, offx + k, none⟩) ltx).trans hrx
      obtain ⟨x, hvx, hxx⟩ := name_num hrx
      have HX := Lib.hid hvx
      clear hvx hrx
      obtain ⟨y, hyv⟩ : ∃ y, y = within x 100000 := ⟨_, rfl⟩
      have HY := Lib.hid hyv
      have htk : List.take (k + 1) vs = List.take k vs ++ [y] := by rw [take_snoc _ (by have := HL.out; omega), HG.out k hlt, ← HX.out, ← HY.out]
      have HTk := Lib.hid htk
      have M3 : ∀ o, (wr.alloc o).cell? ⟨w1.heap.size + 1, 1, none⟩ = some (.slice A7 (k + 1) c7) := fun o => (World.cell?_alloc_lt _ _ _ (by show w1.heap.size + 1 < _; omega)).trans kb
      have M0 := kb
      have HF := Lib.hid ke
      have HK := Lib.hid ka
      have OV := Lib.hid hown
      have FA := Lib.hid hfar
      have BL := Lib.hid bel
      clear hyv htk hown bel ka kb ke hfar
      go_wp2_with fail
      refine wp_region_M (fun w' => w'.cell? ⟨w1.heap.size + 1, 1, none⟩ = some (.slice A7 (k + 1) c7)) (fun j => j == 7) 8 rfl (by kernel_rfl) ?_
      have hH : wr.drew.cell? ⟨w1.heap.size + 1, 1, none⟩ = some (.slice A7 (k + 1) c7) := M0
      (refine wpAnyM_take (i := 0) (v := ?_) rfl (by kernel_rfl) (by kernel_rfl) (by kernel_rfl) (by kernel_rfl) (fun _ _ _ h => h) (Or.inl ⟨by rfl, ?_⟩) hH ?_; (rotate_left; (intro w hSw; (try dsimp only at hSw); go_simp; try with_reducible rfl)); (try simp only [Act.put, List.setIfInBounds_toArray, List.set_cons_zero, List.set_cons_succ]))
      (refine wpAnyM_take (i := 1) (v := ?_) rfl (by kernel_rfl) (by kernel_rfl) (by kernel_rfl) (by kernel_rfl) (fun _ _ _ h => h) (Or.inl ⟨by rfl, ?_⟩) hH ?_; (rotate_left; (intro w hSw; (try dsimp only at hSw); go_simp; try with_reducible rfl)); (try simp only [Act.put, List.setIfInBounds_toArray, List.set_cons_zero, List.set_cons_succ]))
      (refine wpAnyM_take (i := 2) (v := ?_) rfl (by kernel_rfl) (by kernel_rfl) (by kernel_rfl) (by kernel_rfl) (fun _ _ _ h => h) (Or.inl ⟨by rfl, ?_⟩) hH ?_; (rotate_left; (intro w hSw; (try dsimp only at hSw); go_simp; try with_reducible rfl)); (try simp only [Act.put, List.setIfInBounds_toArray, List.set_cons_zero, List.set_cons_succ]))
      refine wpAnyM_one (i := 3) (by kernel_rfl) rfl (fun K hK => ?_)
      go_simp
      refine (within_any x 100000 y _ (by omega) (by omega) HY.out.symm).mono ?_
      rintro e w' ⟨rfl, rfl⟩
      go_wp2_with fail
      refine hK _ _ (fun _ => hH) ?_
      clear hK K
      refine wpAnyM_one (i := 4) (by kernel_rfl) rfl (fun K hK => ?_)
      go_simp
      refine hK _ _ (fun _ => M3 _) ?_
      clear hK K
      refine wpAnyM_one (i := 5) (by kernel_rfl) rfl (fun K hK => ?_)
      refine step_append_lies _ (by rfl) _ _ _ (by rfl) w1.heap.size 3 i0 _ 1 8 Try.underlying32 hi hz0 hz1 hz2 rfl (by omega) _ (k + 1) ((1 :: List.take k vs).map (Value.int .i64)) (by rfl) ((OV.out.alloc _).drew)
        ⟨wr.heap.size, 0, none⟩ 1 1 [.int .i64 y] (by rfl) (by rfl) (World.news_of_block (cs := #[.int .i64 y]) (t := 3) (fr := (0, 0)) (heap_alloc_new wr _)) (app1_one _ _)
        (by omega) (by unfold maxLen; omega) (by omega) (by simp; omega) (wr.heap.size + 1) (by simp) ?_
      intro gg cap' wq ownq grq atq ltq
      have hnb : wq.heap[w1.heap.size + 1]? = wr.heap[w1.heap.size + 1]? := (grq.block _ (by simp; omega) (fun e => FA.out e.symm)).trans (Below.heap_alloc wr _ _ (by omega))
      have m2 : wq.cell? ⟨w1.heap.size + 1, 1, none⟩ = some (.slice A7 (k + 1) c7) := (World.cell?_of_block hnb).trans M0
      have m5 : wq.cell? ⟨w1.heap.size + 1, 0, none⟩ = some (.int .i64 64) := (World.cell?_of_block hnb).trans HK.out
      have m4 : ∀ o, wq.frozen? ⟨w1.heap.size + 1, o, none⟩ = false := fun o => (World.frozen?_of_block hnb).trans (HF.out o)
      have FQ : (Value.slice (some ⟨gg, 0, none⟩) (k + 1 + 1) cap').ownBlock ≠ some (w1.heap.size + 1) := fun e => by
        simp only [Value.ownBlock, Option.some.injEq] at e
        rcases atq with h | h
        · exact FA.out (by rw [h, e])
        · omega
      have ownq2 : wq.ownsRow w1.heap.size 3 1 (.slice (some ⟨gg, 0, none⟩) (k + 1 + 1) cap') (k + 1 + 1) ((1 :: List.take (k + 1) vs).map (Value.int .i64)) := by rw [HTk.out]; simpa [List.map_append, List.map_take] using ownq
      have OQ := Lib.hid (own_setFar ownq2 FQ 1 (.slice (some ⟨gg, 0, none⟩) (k + 1 + 1) cap'))
      have FQ' := Lib.hid FQ
      have BQ := Lib.hid (show Below w1.heap.size w1 (wq.setCell ⟨w1.heap.size + 1, 1, none⟩ (.slice (some ⟨gg, 0, none⟩) (k + 1 + 1) cap')) from ((((BL.out.alloc (by omega) _).drew).grown grq (by simp; omega) (fun g e => (OV.out.lt g e).1)).setCell (p := ⟨w1.heap.size + 1, 1, none⟩) (Nat.le_succ _) _))
      have zq := grq.size
      simp only [World.size_alloc, World.size_drew] at zq
      refine hK _ _ (fun _ => m2) ?_
      clear hK K hnb ownq ownq2 grq atq M3 M0 FQ
      (refine wpAnyM_take (i := 6) (v := ?_) rfl (by kernel_rfl) (by kernel_rfl) (by kernel_rfl) (by kernel_rfl) (fun _ _ _ h => h) (Or.inl ⟨by rfl, ?_⟩) m2 ?_; (rotate_left; (intro w hSw; (try dsimp only at hSw); go_simp; try with_reducible rfl)); (try simp only [Act.put, List.setIfInBounds_toArray, List.set_cons_zero, List.set_cons_succ]))
      refine wpAnyM_one (i := 7) (by kernel_rfl) rfl (fun K hK => ?_)
      go_simp
      refine hK _ _ (fun h => by cases h) ?_
      clear hK K
      refine wpAnyM_done (by kernel_rfl) ?_ _
      go_wp2_with fail
      go_roundw
      case rel =>
        refine ⟨k + 1, some ⟨gg, 0, none⟩, cap', by omega, by go_num, OQ.out, FQ'.out, ?_, ?_, ?_, BQ.out, ?_⟩
        · simp [go_sem, *]
        · simp [go_sem, *]
        · intro o; simp [go_sem, *]
        · simp only [World.size_setCell]; omega
      case measure => simp [intOf]; omega
    · obtain rfl : n = k := by omega
      rw [List.take_of_length_le (by have := HL.out; omega)] at hown
      have R7 := Lib.hid (Row.of_own hown)
      have B7 := Lib.hid (show Below w.heap.size w wr from B1.out.trans (bel.mono z1))
      have zB7 : w.heap.size ≤ wr.heap.size := by omega
      obtain ⟨w5, rfl⟩ : ∃ z : World, z = wr := ⟨_, rfl⟩
      have qa := alloc_cells
      have qf := alloc_frozens
      have l5 : w1.heap.size + 1 < w5.heap.size := by omega
      clear hown hfar bel HB0 HW ke
      go_wp2_with fail
      obtain ⟨zs, hzs⟩ : ∃ zs, 1 :: vs = zs := ⟨_, rfl⟩
      rw [hzs] at R7 hl1 hl2 hl3
      have hzb : Btw 0 100000 zs := hzs ▸ HVB.out
      have hzn : zs.length = n + 1 := by rw [← hzs]; simp [HL.out]
      obtain ⟨bs, hbs⟩ : ∃ bs, zs.map (· + B) = bs := ⟨_, rfl⟩
      obtain ⟨cs, hcs⟩ : ∃ cs, zs.map (· * (1 + U)) = cs := ⟨_, rfl⟩
      rw [hbs] at hl2
      rw [hcs] at hl3
      have HZb := Lib.hid hzb
      have HBg := Lib.hid (show ∀ k, k < n + 1 → bs.take (k + 1) = bs.take k ++ [zs.getD k 0 + B] from fun k hk => by
        rw [take_snoc _ (by rw [← hbs, List.length_map]; omega), ← hbs]; simp [List.getD, List.getElem?_eq_getElem (show k < zs.length by omega)])
      have HCg := Lib.hid (show ∀ k, k < n + 1 → cs.take (k + 1) = cs.take k ++ [zs.getD k 0 * (1 + U)] from fun k hk => by
        rw [take_snoc _ (by rw [← hcs, List.length_map]; omega), ← hcs]; simp [List.getD, List.getElem?_eq_getElem (show k < zs.length by omega)])
      have HBn := Lib.hid (show bs.length = n + 1 by rw [← hbs, List.length_map, hzn])
      have HCn := Lib.hid (show cs.length = n + 1 by rw [← hcs, List.length_map, hzn])
      have HZn := Lib.hid hzn
      clear hzs hzb hzn hbs hcs HVB HL HG
      obtain ⟨bk, off, rfl, ltb, hcr⟩ := R7.out.at (by omega)
      have HCr := Lib.hid hcr
      clear hcr
      obtain ⟨W, hW⟩ : ∃ W, (w5.alloc (.cells #[.int .i64 64, .slice none 0 0] 73)).alloc (.cells #[.int .i64 64, .slice none 0 0] 73) = W := ⟨_, rfl⟩
      have K0 : (w5.alloc (.cells #[.int .i64 64, .slice none 0 0] 73)).heap.size = w5.heap.size + 1 := by simp
      have ja : W.cell? ⟨w5.heap.size, 0, none⟩ = some (.int .i64 64) := by rw [← hW]; clear hW; simp [go_sem, ↓IntWalk.iteOmega, *]
      have jb : W.cell? ⟨w5.heap.size, 1, none⟩ = some (.slice none 0 0) := by rw [← hW]; clear hW; simp [go_sem, ↓IntWalk.iteOmega, *]
      have jc : W.cell? ⟨w5.heap.size + 1, 0, none⟩ = some (.int .i64 64) := by rw [← hW]; clear hW; simp [go_sem, ↓IntWalk.iteOmega, *]
      have jd : W.cell? ⟨w5.heap.size + 1, 1, none⟩ = some (.slice none 0 0) := by rw [← hW]; clear hW; simp [go_sem, ↓IntWalk.iteOmega, *]
      have je : ∀ o, W.frozen? ⟨w5.heap.size, o, none⟩ = false := by intro o; rw [← hW]; clear hW; simp [go_sem, ↓IntWalk.iteOmega, *]
      have jf : ∀ o, W.frozen? ⟨w5.heap.size + 1, o, none⟩ = false := by intro o; rw [← hW]; clear hW; simp [go_sem, ↓IntWalk.iteOmega, *]
      have jg : Below w5.heap.size w5 W := by rw [← hW]; exact ((Below.refl _ _).alloc (Nat.le_refl _) _).alloc (by simp) _
      have jh : W.heap.size = w5.heap.size + 2 := by rw [← hW]; simp
      have HW := Lib.hid (⟨ja, jb, jc, jd, je, jf, jg, jh⟩ : _ ∧ _ ∧ _ ∧ _ ∧ _ ∧ _ ∧ _ ∧ _)
      have hWW := hW
      have Ka := Lib.hid ka
      have Kb := Lib.hid kb
      clear ja jb jc jd je jf jg jh K0 hW qa qf ka kb
      rw [hWW]
      clear hWW
      go_loopw [61] (fun i wr => ∃ (k : Nat) (Ab : Option Addr) (cb : Nat) (Ac : Option Addr) (cc : Nat), k ≤ n + 1 ∧ i = .int .i64 k ∧ wr.ownsRow (w5.heap.size + 2) 3 1 (.slice Ab k cb) k ((bs.take k).map (Value.int .i64)) ∧ wr.ownsRow (w5.heap.size + 2) 3 1 (.slice Ac k cc) k ((cs.take k).map (Value.int .i64)) ∧ Far2 (.slice Ab k cb) (.slice Ac k cc) ∧
        wr.cell? ⟨w5.heap.size, 0, none⟩ = some (.int .i64 64) ∧ wr.cell? ⟨w5.heap.size, 1, none⟩ = some (.slice Ab k cb) ∧ wr.cell? ⟨w5.heap.size + 1, 0, none⟩ = some (.int .i64 64) ∧ wr.cell? ⟨w5.heap.size + 1, 1, none⟩ = some (.slice Ac k cc) ∧
        (∀ o, wr.frozen? ⟨w5.heap.size, o, none⟩ = false) ∧ (∀ o, wr.frozen? ⟨w5.heap.size + 1, o, none⟩ = false) ∧ Below w5.heap.size w5 wr ∧ w5.heap.size + 2 ≤ wr.heap.size) (fun i _ => n + 1 - (intOf i).toNat)
      case atStart => exact ⟨0, none, 0, none, 0, Nat.zero_le _, rfl, World.ownsRow_nil _ _ _ _, World.ownsRow_nil _ _ _ _, far2_nil _, HW.out.1, HW.out.2.1, HW.out.2.2.1, HW.out.2.2.2.1, HW.out.2.2.2.2.1, HW.out.2.2.2.2.2.1, HW.out.2.2.2.2.2.2.1, by have := HW.out.2.2.2.2.2.2.2; omega⟩
      case round =>
        obtain ⟨k, Ab, cb, Ac, cc, hk, rfl, ownb, ownc, hfar, k0, mb, k1, mc, fb, fc, bel, hsz⟩ := hrel
        by_cases hlt : k < n + 1
        · have cv := (bel.cell (p := ⟨bk, off + k, none⟩) ltb).trans (HCr.out k hlt)
          obtain ⟨x, hx, cx⟩ := name_num cv
          have xb : 0 ≤ x ∧ x ≤ 100000 := by rw [hx]; exact HZb.out.get (by have := HZn.out; omega)
          have xc : 0 ≤ x * (1 + U) ∧ x * (1 + U) ≤ 100000 * 100 := ⟨Int.mul_nonneg xb.1 (by omega), Int.mul_le_mul xb.2 (by omega) (by omega) (by omega)⟩
          have v1 : IntKind.i64.wrap (x + B) = x + B := IntWalk.i64_in _ (by omega)
          have v2 : IntKind.i64.wrap (x * (1 + U)) = x * (1 + U) := IntWalk.i64_in _ (by omega)
          have HBk := Lib.hid (show bs.take (k + 1) = bs.take k ++ [x + B] by rw [HBg.out k hlt, ← hx])
          have HCk := Lib.hid (show cs.take (k + 1) = cs.take k ++ [x * (1 + U)] by rw [HCg.out k hlt, ← hx])
          have T0 := Lib.hid (show Two w5.heap.size wr wr (.slice Ab k cb) k ((bs.take k).map (Value.int .i64)) (.slice Ac k cc) k ((cs.take k).map (Value.int .i64)) from ⟨ownb, ownc, hfar, hfar.symm, Below.refl _ _, hsz⟩)
          have OVb := Lib.hid ownb
          have hH : wr.drew.cell? ⟨w5.heap.size, 1, none⟩ = some (.slice Ab k cb) ∧ wr.drew.cell? ⟨w5.heap.size + 1, 1, none⟩ = some (.slice Ac k cc) := ⟨mb, mc⟩
          have HS := Lib.hid (fun (W : World) (h : Below (w5.heap.size + 2) wr W) => show W.drew.cell? ⟨w5.heap.size, 1, none⟩ = some (.slice Ab k cb) ∧ W.drew.cell? ⟨w5.heap.size + 1, 1, none⟩ = some (.slice Ac k cc) from ⟨(h.cell (p := ⟨w5.heap.size, 1, none⟩) (by show w5.heap.size < _; omega)).trans mb, (h.cell (p := ⟨w5.heap.size + 1, 1, none⟩) (by show w5.heap.size + 1 < _; omega)).trans mc⟩)
          have Kb0 := Lib.hid k0
          have Kc0 := Lib.hid k1
          have Mb := Lib.hid mb
          have Mc := Lib.hid mc
          have Fb := Lib.hid fb
          have Fc := Lib.hid fc
          have BL := Lib.hid bel
          clear ownb ownc hfar k0 mb k1 mc fb fc bel cv hx
          go_wp2_with fail
          refine wp_region_M (fun w' => w'.cell? ⟨w5.heap.size, 1, none⟩ = some (.slice Ab k cb) ∧ w'.cell? ⟨w5.heap.size + 1, 1, none⟩ = some (.slice Ac k cc)) (fun j => j == 15 || j == 16 || j == 17) 18 rfl (by kernel_rfl) ?_
          (refine wpAnyM_take (i := 0) (v := ?_) rfl (by kernel_rfl) (by kernel_rfl) (by kernel_rfl) (by kernel_rfl) (fun _ _ _ h => h) (Or.inl ⟨by rfl, ?_⟩) hH ?_; (rotate_left; (intro w hSw; (try dsimp only at hSw); go_simp; try with_reducible rfl)); (try simp only [Act.put, List.setIfInBounds_toArray, List.set_cons_zero, List.set_cons_succ]))
          (refine wpAnyM_take (i := 1) (v := ?_) rfl (by kernel_rfl) (by kernel_rfl) (by kernel_rfl) (by kernel_rfl) (fun _ _ _ h => h) (Or.inl ⟨by rfl, ?_⟩) hH ?_; (rotate_left; (intro w hSw; (try dsimp only at hSw); go_simp; try with_reducible rfl)); (try simp only [Act.put, List.setIfInBounds_toArray, List.set_cons_zero, List.set_cons_succ]))
          (refine wpAnyM_take (i := 2) (v := ?_) rfl (by kernel_rfl) (by kernel_rfl) (by kernel_rfl) (by kernel_rfl) (fun _ _ _ h => h) (Or.inl ⟨by rfl, ?_⟩) hH ?_; (rotate_left; (intro w hSw; (try dsimp only at hSw); go_simp; try with_reducible rfl)); (try simp only [Act.put, List.setIfInBounds_toArray, List.set_cons_zero, List.set_cons_succ]))
          (refine wpAnyM_take (i := 3) (v := ?_) rfl (by kernel_rfl) (by kernel_rfl) (by kernel_rfl) (by kernel_rfl) (fun _ _ _ h => h) (Or.inl ⟨by rfl, ?_⟩) hH ?_; (rotate_left; (intro w hSw; (try dsimp only at hSw); go_simp; try with_reducible rfl)); (try simp only [Act.put, List.setIfInBounds_toArray, List.set_cons_zero, List.set_cons_succ]))
          (refine wpAnyM_take (i := 4) (v := ?_) rfl (by kernel_rfl) (by kernel_rfl) (by kernel_rfl) (by kernel_rfl) (fun _ _ _ h => h) (Or.inl ⟨by rfl, ?_⟩) hH ?_; (rotate_left; (intro w hSw; (try dsimp only at hSw); go_simp; try with_reducible rfl)); (try simp only [Act.put, List.setIfInBounds_toArray, List.set_cons_zero, List.set_cons_succ]))
          (refine wpAnyM_take (i := 7) (v := ?_) rfl (by kernel_rfl) (by kernel_rfl) (by kernel_rfl) (by kernel_rfl) (fun _ _ _ h => h) (Or.inl ⟨by rfl, ?_⟩) hH ?_; (rotate_left; (intro w hSw; (try dsimp only at hSw); go_simp; try with_reducible rfl)); (try simp only [Act.put, List.setIfInBounds_toArray, List.set_cons_zero, List.set_cons_succ]))
          (refine wpAnyM_take (i := 8) (v := ?_) rfl (by kernel_rfl) (by kernel_rfl) (by kernel_rfl) (by kernel_rfl) (fun _ _ _ h => h) (Or.inl ⟨by rfl, ?_⟩) hH ?_; (rotate_left; (intro w hSw; (try dsimp only at hSw); go_simp; try with_reducible rfl)); (try simp only [Act.put, List.setIfInBounds_toArray, List.set_cons_zero, List.set_cons_succ]))
          (refine wpAnyM_take (i := 9) (v := ?_) rfl (by kernel_rfl) (by kernel_rfl) (by kernel_rfl) (by kernel_rfl) (fun _ _ _ h => h) (Or.inl ⟨by rfl, ?_⟩) hH ?_; (rotate_left; (intro w hSw; (try dsimp only at hSw); go_simp; try with_reducible rfl)); (try simp only [Act.put, List.setIfInBounds_toArray, List.set_cons_zero, List.set_cons_succ]))
          (refine wpAnyM_take (i := 10) (v := ?_) rfl (by kernel_rfl) (by kernel_rfl) (by kernel_rfl) (by kernel_rfl) (fun _ _ _ h => h) (Or.inl ⟨by rfl, ?_⟩) hH ?_; (rotate_left; (intro w hSw; (try dsimp only at hSw); go_simp; try with_reducible rfl)); (try simp only [Act.put, List.setIfInBounds_toArray, List.set_cons_zero, List.set_cons_succ]))
          (refine wpAnyM_take (i := 11) (v := ?_) rfl (by kernel_rfl) (by kernel_rfl) (by kernel_rfl) (by kernel_rfl) (fun _ _ _ h => h) (Or.inl ⟨by rfl, ?_⟩) hH ?_; (rotate_left; (intro w hSw; (try dsimp only at hSw); go_simp; try with_reducible rfl)); (try simp only [Act.put, List.setIfInBounds_toArray, List.set_cons_zero, List.set_cons_succ]))
          refine wpAnyM_two (i := 5) (j := 12) (by kernel_rfl) rfl rfl (fun K hK => ?_) (fun K hK => ?_)
          · go_simp
            have TW := Lib.hid (T0.out.alloc (.cells #[.int .i64 (x + B)] 3))
            refine hK _ _ (fun _ => HS.out _ TW.out.2.2.2.2.1) ?_
            clear hK K
            refine wpAnyM_two (i := 6) (j := 12) (by kernel_rfl) rfl rfl (fun K hK => ?_) (fun K hK => ?_)
            · refine step_append_lies _ (by rfl) _ _ _ (by rfl) (w5.heap.size + 2) 3 i0 _ 1 8 Try.underlying32 hi hz0 hz1 hz2 rfl (by omega) _ k ((List.take k bs).map (Value.int .i64)) (by rfl) (show World.ownsRow (World.drew (wr.alloc (.cells #[.int .i64 (x + B)] 3))) _ _ _ _ _ _ from TW.out.1)
                ⟨wr.heap.size, 0, none⟩ 1 1 [.int .i64 (x + B)] (by rfl) (by rfl) (World.news_of_block (cs := #[.int .i64 (x + B)]) (t := 3) (fr := (0, 0)) (heap_alloc_new wr _)) (app1_one _ _)
                (by omega) (by unfold maxLen; omega) (by omega) (by have := TW.out.2.2.2.2.2; exact this) _ rfl ?_
              intro gb capb wq ownq grq atq ltq
              have TQ := Lib.hid (TW.out.drew.appB ownq grq atq)
              have GQ := Lib.hid grq
              refine hK _ _ (fun _ => HS.out _ TQ.out.2.2.2.2.1) ?_
              clear hK K ownq grq atq ltq
              have hQ := HS.out _ TQ.out.2.2.2.2.1
              (refine wpAnyM_take (i := 14) (v := ?_) rfl (by kernel_rfl) (by kernel_rfl) (by kernel_rfl) (by kernel_rfl) (fun _ _ _ h => h) (Or.inl ⟨by rfl, ?_⟩) hQ ?_; (rotate_left; (intro w hSw; (try dsimp only at hSw); go_simp; try with_reducible rfl)); (try simp only [Act.put, List.setIfInBounds_toArray, List.set_cons_zero, List.set_cons_succ]))
              clear hQ
              refine wpAnyM_one (i := 12) (by kernel_rfl) rfl (fun K hK => ?_)
              go_simp
              have TV := Lib.hid (TQ.out.alloc (.cells #[.int .i64 (x * (1 + U))] 3))
              refine hK _ _ (fun _ => HS.out _ TV.out.2.2.2.2.1) ?_
              clear hK K
              refine wpAnyM_one (i := 13) (by kernel_rfl) rfl (fun K hK => ?_)
              refine step_append_lies _ (by rfl) _ _ _ (by rfl) (w5.heap.size + 2) 3 i0 _ 1 8 Try.underlying32 hi hz0 hz1 hz2 rfl (by omega) _ k ((List.take k cs).map (Value.int .i64)) (by rfl) (show World.ownsRow (wq.alloc (.cells #[.int .i64 (x * (1 + U))] 3)) _ _ _ _ _ _ from TV.out.2.1)
                ⟨wq.heap.size, 0, none⟩ 1 1 [.int .i64 (x * (1 + U))] (by rfl) (by rfl) (World.news_of_block (cs := #[.int .i64 (x * (1 + U))]) (t := 3) (fr := (0, 0)) (heap_alloc_new wq _)) (app1_one _ _)
                (by omega) (by unfold maxLen; omega) (by omega) (by have := TV.out.2.2.2.2.2; exact this) _ rfl ?_
              intro gc capc wz ownz grz atz ltz
              have TZ := Lib.hid (TV.out.flip.appB ownz grz atz)
              refine hK _ _ (fun _ => HS.out _ TZ.out.2.2.2.2.1) ?_
              clear hK K ownz grz atz ltz
              have TF := Lib.hid TZ.out.flip
              have hZb := (TF.out.2.2.2.2.1.cell (p := ⟨w5.heap.size, 0, none⟩) (by show w5.heap.size < _; omega)).trans Kb0.out
              have hZb1 := (TF.out.2.2.2.2.1.cell (p := ⟨w5.heap.size, 1, none⟩) (by show w5.heap.size < _; omega)).trans Mb.out
              have hZc := (TF.out.2.2.2.2.1.cell (p := ⟨w5.heap.size + 1, 0, none⟩) (by show w5.heap.size + 1 < _; omega)).trans Kc0.out
              have hZc1 := (TF.out.2.2.2.2.1.cell (p := ⟨w5.heap.size + 1, 1, none⟩) (by show w5.heap.size + 1 < _; omega)).trans Mc.out
              have hZf : ∀ o, wz.frozen? ⟨w5.heap.size, o, none⟩ = false := fun o => (TF.out.2.2.2.2.1.frozen (p := ⟨w5.heap.size, o, none⟩) (by show w5.heap.size < _; omega)).trans (Fb.out o)
              have hZg : ∀ o, wz.frozen? ⟨w5.heap.size + 1, o, none⟩ = false := fun o => (TF.out.2.2.2.2.1.frozen (p := ⟨w5.heap.size + 1, o, none⟩) (by show w5.heap.size + 1 < _; omega)).trans (Fc.out o)
              have zz := TF.out.2.2.2.2.2
              have OB := Lib.hid (show World.ownsRow ((wz.setCell ⟨w5.heap.size, 1, none⟩ (.slice (some ⟨gb, 0, none⟩) (k + 1) capb)).setCell ⟨w5.heap.size + 1, 1, none⟩ (.slice (some ⟨gc, 0, none⟩) (k + 1) capc)) (w5.heap.size + 2) 3 1 (.slice (some ⟨gb, 0, none⟩) (k + 1) capb) (k + 1) ((List.take (k + 1) bs).map (Value.int .i64)) from by
                refine own_set (own_set ?_ (by omega) 1 _) (by omega) 1 _
                rw [HBk.out]; simpa [List.map_append, List.map_take] using TF.out.1)
              have OC := Lib.hid (show World.ownsRow ((wz.setCell ⟨w5.heap.size, 1, none⟩ (.slice (some ⟨gb, 0, none⟩) (k + 1) capb)).setCell ⟨w5.heap.size + 1, 1, none⟩ (.slice (some ⟨gc, 0, none⟩) (k + 1) capc)) (w5.heap.size + 2) 3 1 (.slice (some ⟨gc, 0, none⟩) (k + 1) capc) (k + 1) ((List.take (k + 1) cs).map (Value.int .i64)) from by
                refine own_set (own_set ?_ (by omega) 1 _) (by omega) 1 _
                rw [HCk.out]; simpa [List.map_append, List.map_take] using TF.out.2.1)
              have BQ := Lib.hid (show Below w5.heap.size w5 ((wz.setCell ⟨w5.heap.size, 1, none⟩ (.slice (some ⟨gb, 0, none⟩) (k + 1) capb)).setCell ⟨w5.heap.size + 1, 1, none⟩ (.slice (some ⟨gc, 0, none⟩) (k + 1) capc)) from
                ((BL.out.trans (TF.out.2.2.2.2.1.mono (by omega))).setCell (p := ⟨w5.heap.size, 1, none⟩) (Nat.le_refl _) _).setCell (p := ⟨w5.heap.size + 1, 1, none⟩) (Nat.le_succ _) _)
              clear cx
              refine wpAnyM_one (i := 15) (by kernel_rfl) rfl (fun K hK => ?_)
              go_simp
              refine hK _ _ (fun h => by cases h) ?_
              clear hK K
              refine wpAnyM_one (i := 16) (by kernel_rfl) rfl (fun K hK => ?_)
              go_simp
              refine hK _ _ (fun h => by cases h) ?_
              clear hK K
              refine wpAnyM_one (i := 17) (by kernel_rfl) rfl (fun K hK => ?_)
              go_simp
              refine hK _ _ (fun h => by cases h) ?_
              clear hK K
              refine wpAnyM_done (by kernel_rfl) ?_ _
              go_wp2_with fail
              go_roundw
              case rel =>
                refine ⟨k + 1, some ⟨gb, 0, none⟩, capb, some ⟨gc, 0, none⟩, capc, by omega, by go_num, OB.out, OC.out, TF.out.2.2.1, ?_, ?_, ?_, ?_, ?_, ?_, BQ.out, ?_⟩
                · simp [go_sem, *]
                · simp [go_sem, *]
                · simp [go_sem, *]
                · simp [go_sem, *]
                · intro o; simp [go_sem, *]
                · intro o; simp [go_sem, *]
                · simp only [World.size_setCell]; omega
              case measure => simp [intOf]; omega

            · go_simp
              have TX := Lib.hid (TW.out.alloc (.cells #[.int .i64 (x * (1 + U))] 3))
              refine hK _ _ (fun _ => HS.out _ TX.out.2.2.2.2.1) ?_
              clear hK K
              refine wpAnyM_one (i := 6) (by kernel_rfl) rfl (fun K hK => ?_)
              refine step_append_lies _ (by rfl) _ _ _ (by rfl) (w5.heap.size + 2) 3 i0 _ 1 8 Try.underlying32 hi hz0 hz1 hz2 rfl (by omega) _ k ((List.take k bs).map (Value.int .i64)) (by rfl) (show World.ownsRow (World.drew ((wr.alloc (.cells #[.int .i64 (x + B)] 3)).alloc (.cells #[.int .i64 (x * (1 + U))] 3))) _ _ _ _ _ _ from TX.out.1)
                ⟨wr.heap.size, 0, none⟩ 1 1 [.int .i64 (x + B)] (by rfl) (by rfl) (World.news_of_block (cs := #[.int .i64 (x + B)]) (t := 3) (fr := (0, 0)) ((Below.heap_alloc _ _ _ (by simp)).trans (heap_alloc_new wr _))) (app1_one _ _)
                (by omega) (by unfold maxLen; omega) (by omega) (by have := TX.out.2.2.2.2.2; exact this) _ rfl ?_
              intro gb capb wq ownq grq atq ltq
              have TQ := Lib.hid (TX.out.drew.appB ownq grq atq)
              have GQ := Lib.hid grq
              refine hK _ _ (fun _ => HS.out _ TQ.out.2.2.2.2.1) ?_
              clear hK K ownq grq atq ltq
              have hQ := HS.out _ TQ.out.2.2.2.2.1
              (refine wpAnyM_take (i := 14) (v := ?_) rfl (by kernel_rfl) (by kernel_rfl) (by kernel_rfl) (by kernel_rfl) (fun _ _ _ h => h) (Or.inl ⟨by rfl, ?_⟩) hQ ?_; (rotate_left; (intro w hSw; (try dsimp only at hSw); go_simp; try with_reducible rfl)); (try simp only [Act.put, List.setIfInBounds_toArray, List.set_cons_zero, List.set_cons_succ]))
              clear hQ
              have TV := TQ
              refine wpAnyM_one (i := 13) (by kernel_rfl) rfl (fun K hK => ?_)
              refine step_append_lies _ (by rfl) _ _ _ (by rfl) (w5.heap.size + 2) 3 i0 _ 1 8 Try.underlying32 hi hz0 hz1 hz2 rfl (by omega) _ k ((List.take k cs).map (Value.int .i64)) (by rfl) (show World.ownsRow (wq) _ _ _ _ _ _ from TV.out.2.1)
                ⟨wr.heap.size + 1, 0, none⟩ 1 1 [.int .i64 (x * (1 + U))] (by rfl) (by rfl) (World.news_of_block (cs := #[.int .i64 (x * (1 + U))]) (t := 3) (fr := (0, 0)) ((GQ.out.block _ (by simp) (fun e => by have := (OVb.out.lt _ e.symm).2; omega)).trans (by have h := heap_alloc_new (wr.alloc (.cells #[.int .i64 (x + B)] 3)) (.cells #[.int .i64 (x * (1 + U))] 3); rwa [World.size_alloc] at h))) (app1_one _ _)
                (by omega) (by unfold maxLen; omega) (by omega) (by have := TV.out.2.2.2.2.2; exact this) _ rfl ?_
              intro gc capc wz ownz grz atz ltz
              have TZ := Lib.hid (TV.out.flip.appB ownz grz atz)
              refine hK _ _ (fun _ => HS.out _ TZ.out.2.2.2.2.1) ?_
              clear hK K ownz grz atz ltz
              have TF := Lib.hid TZ.out.flip
              have hZb := (TF.out.2.2.2.2.1.cell (p := ⟨w5.heap.size, 0, none⟩) (by show w5.heap.size < _; omega)).trans Kb0.out
              have hZb1 := (TF.out.2.2.2.2.1.cell (p := ⟨w5.heap.size, 1, none⟩) (by show w5.heap.size < _; omega)).trans Mb.out
              have hZc := (TF.out.2.2.2.2.1.cell (p := ⟨w5.heap.size + 1, 0, none⟩) (by show w5.heap.size + 1 < _; omega)).trans Kc0.out
              have hZc1 := (TF.out.2.2.2.2.1.cell (p := ⟨w5.heap.size + 1, 1, none⟩) (by show w5.heap.size + 1 < _; omega)).trans Mc.out
              have hZf : ∀ o, wz.frozen? ⟨w5.heap.size, o, none⟩ = false := fun o => (TF.out.2.2.2.2.1.frozen (p := ⟨w5.heap.size, o, none⟩) (by show w5.heap.size < _; omega)).trans (Fb.out o)
              have hZg : ∀ o, wz.frozen? ⟨w5.heap.size + 1, o, none⟩ = false := fun o => (TF.out.2.2.2.2.1.frozen (p := ⟨w5.heap.size + 1, o, none⟩) (by show w5.heap.size + 1 < _; omega)).trans (Fc.out o)
              have zz := TF.out.2.2.2.2.2
              have OB := Lib.hid (show World.ownsRow ((wz.setCell ⟨w5.heap.size, 1, none⟩ (.slice (some ⟨gb, 0, none⟩) (k + 1) capb)).setCell ⟨w5.heap.size + 1, 1, none⟩ (.slice (some ⟨gc, 0, none⟩) (k + 1) capc)) (w5.heap.size + 2) 3 1 (.slice (some ⟨gb, 0, none⟩) (k + 1) capb) (k + 1) ((List.take (k + 1) bs).map (Value.int .i64)) from by
                refine own_set (own_set ?_ (by omega) 1 _) (by omega) 1 _
                rw [HBk.out]; simpa [List.map_append, List.map_take] using TF.out.1)
              have OC := Lib.hid (show World.ownsRow ((wz.setCell ⟨w5.heap.size, 1, none⟩ (.slice (some ⟨gb, 0, none⟩) (k + 1) capb)).setCell ⟨w5.heap.size + 1, 1, none⟩ (.slice (some ⟨gc, 0, none⟩) (k + 1) capc)) (w5.heap.size + 2) 3 1 (.slice (some ⟨gc, 0, none⟩) (k + 1) capc) (k + 1) ((List.take (k + 1) cs).map (Value.int .i64)) from by
                refine own_set (own_set ?_ (by omega) 1 _) (by omega) 1 _
                rw [HCk.out]; simpa [List.map_append, List.map_take] using TF.out.2.1)
              have BQ := Lib.hid (show Below w5.heap.size w5 ((wz.setCell ⟨w5.heap.size, 1, none⟩ (.slice (some ⟨gb, 0, none⟩) (k + 1) capb)).setCell ⟨w5.heap.size + 1, 1, none⟩ (.slice (some ⟨gc, 0, none⟩) (k + 1) capc)) from
                ((BL.out.trans (TF.out.2.2.2.2.1.mono (by omega))).setCell (p := ⟨w5.heap.size, 1, none⟩) (Nat.le_refl _) _).setCell (p := ⟨w5.heap.size + 1, 1, none⟩) (Nat.le_succ _) _)
              clear cx
              refine wpAnyM_one (i := 15) (by kernel_rfl) rfl (fun K hK => ?_)
              go_simp
              refine hK _ _ (fun h => by cases h) ?_
              clear hK K
              refine wpAnyM_one (i := 16) (by kernel_rfl) rfl (fun K hK => ?_)
              go_simp
              refine hK _ _ (fun h => by cases h) ?_
              clear hK K
              refine wpAnyM_one (i := 17) (by kernel_rfl) rfl (fun K hK => ?_)
              go_simp
              refine hK _ _ (fun h => by cases h) ?_
              clear hK K
              refine wpAnyM_done (by kernel_rfl) ?_ _
              go_wp2_with fail
              go_roundw
              case rel =>
                refine ⟨k + 1, some ⟨gb, 0, none⟩, capb, some ⟨gc, 0, none⟩, capc, by omega, by go_num, OB.out, OC.out, TF.out.2.2.1, ?_, ?_, ?_, ?_, ?_, ?_, BQ.out, ?_⟩
                · simp [go_sem, *]
                · simp [go_sem, *]
                · simp [go_sem, *]
                · simp [go_sem, *]
                · intro o; simp [go_sem, *]
                · intro o; simp [go_sem, *]
                · simp only [World.size_setCell]; omega
              case measure => simp [intOf]; omega

          · go_simp
            have TX := Lib.hid (T0.out.alloc (.cells #[.int .i64 (x * (1 + U))] 3))
            refine hK _ _ (fun _ => HS.out _ TX.out.2.2.2.2.1) ?_
            clear hK K
            refine wpAnyM_one (i := 5) (by kernel_rfl) rfl (fun K hK => ?_)
            go_simp
            have TW := Lib.hid (TX.out.alloc (.cells #[.int .i64 (x + B)] 3))
            refine hK _ _ (fun _ => HS.out _ TW.out.2.2.2.2.1) ?_
            clear hK K
            refine wpAnyM_one (i := 6) (by kernel_rfl) rfl (fun K hK => ?_)
            refine step_append_lies _ (by rfl) _ _ _ (by rfl) (w5.heap.size + 2) 3 i0 _ 1 8 Try.underlying32 hi hz0 hz1 hz2 rfl (by omega) _ k ((List.take k bs).map (Value.int .i64)) (by rfl) (show World.ownsRow (World.drew ((wr.alloc (.cells #[.int .i64 (x * (1 + U))] 3)).alloc (.cells #[.int .i64 (x + B)] 3))) _ _ _ _ _ _ from TW.out.1)
              ⟨wr.heap.size + 1, 0, none⟩ 1 1 [.int .i64 (x + B)] (by rfl) (by rfl) (World.news_of_block (cs := #[.int .i64 (x + B)]) (t := 3) (fr := (0, 0)) (by have h := heap_alloc_new (wr.alloc (.cells #[.int .i64 (x * (1 + U))] 3)) (.cells #[.int .i64 (x + B)] 3); rwa [World.size_alloc] at h)) (app1_one _ _)
              (by omega) (by unfold maxLen; omega) (by omega) (by have := TW.out.2.2.2.2.2; exact this) _ rfl ?_
            intro gb capb wq ownq grq atq ltq
            have TQ := Lib.hid (TW.out.drew.appB ownq grq atq)
            have GQ := Lib.hid grq
            refine hK _ _ (fun _ => HS.out _ TQ.out.2.2.2.2.1) ?_
            clear hK K ownq grq atq ltq
            have hQ := HS.out _ TQ.out.2.2.2.2.1
            (refine wpAnyM_take (i := 14) (v := ?_) rfl (by kernel_rfl) (by kernel_rfl) (by kernel_rfl) (by kernel_rfl) (fun _ _ _ h => h) (Or.inl ⟨by rfl, ?_⟩) hQ ?_; (rotate_left; (intro w hSw; (try dsimp only at hSw); go_simp; try with_reducible rfl)); (try simp only [Act.put, List.setIfInBounds_toArray, List.set_cons_zero, List.set_cons_succ]))
            clear hQ
            have TV := TQ
            refine wpAnyM_one (i := 13) (by kernel_rfl) rfl (fun K hK => ?_)
            refine step_append_lies _ (by rfl) _ _ _ (by rfl) (w5.heap.size + 2) 3 i0 _ 1 8 Try.underlying32 hi hz0 hz1 hz2 rfl (by omega) _ k ((List.take k cs).map (Value.int .i64)) (by rfl) (show World.ownsRow (wq) _ _ _ _ _ _ from TV.out.2.1)
              ⟨wr.heap.size, 0, none⟩ 1 1 [.int .i64 (x * (1 + U))] (by rfl) (by rfl) (World.news_of_block (cs := #[.int .i64 (x * (1 + U))]) (t := 3) (fr := (0, 0)) ((GQ.out.block _ (by simp; omega) (fun e => by have := (OVb.out.lt _ e.symm).2; omega)).trans ((Below.heap_alloc _ _ _ (by simp)).trans (heap_alloc_new wr _)))) (app1_one _ _)
              (by omega) (by unfold maxLen; omega) (by omega) (by have := TV.out.2.2.2.2.2; exact this) _ rfl ?_
            intro gc capc wz ownz grz atz ltz
            have TZ := Lib.hid (TV.out.flip.appB ownz grz atz)
            refine hK _ _ (fun _ => HS.out _ TZ.out.2.2.2.2.1) ?_
            clear hK K ownz grz atz ltz
            have TF := Lib.hid TZ.out.flip
            have hZb := (TF.out.2.2.2.2.1.cell (p := ⟨w5.heap.size, 0, none⟩) (by show w5.heap.size < _; omega)).trans Kb0.out
            have hZb1 := (TF.out.2.2.2.2.1.cell (p := ⟨w5.heap.size, 1, none⟩) (by show w5.heap.size < _; omega)).trans Mb.out
            have hZc := (TF.out.2.2.2.2.1.cell (p := ⟨w5.heap.size + 1, 0, none⟩) (by show w5.heap.size + 1 < _; omega)).trans Kc0.out
            have hZc1 := (TF.out.2.2.2.2.1.cell (p := ⟨w5.heap.size + 1, 1, none⟩) (by show w5.heap.size + 1 < _; omega)).trans Mc.out
            have hZf : ∀ o, wz.frozen? ⟨w5.heap.size, o, none⟩ = false := fun o => (TF.out.2.2.2.2.1.frozen (p := ⟨w5.heap.size, o, none⟩) (by show w5.heap.size < _; omega)).trans (Fb.out o)
            have hZg : ∀ o, wz.frozen? ⟨w5.heap.size + 1, o, none⟩ = false := fun o => (TF.out.2.2.2.2.1.frozen (p := ⟨w5.heap.size + 1, o, none⟩) (by show w5.heap.size + 1 < _; omega)).trans (Fc.out o)
            have zz := TF.out.2.2.2.2.2
            have OB := Lib.hid (show World.ownsRow ((wz.setCell ⟨w5.heap.size, 1, none⟩ (.slice (some ⟨gb, 0, none⟩) (k + 1) capb)).setCell ⟨w5.heap.size + 1, 1, none⟩ (.slice (some ⟨gc, 0, none⟩) (k + 1) capc)) (w5.heap.size + 2) 3 1 (.slice (some ⟨gb, 0, none⟩) (k + 1) capb) (k + 1) ((List.take (k + 1) bs).map (Value.int .i64)) from by
              refine own_set (own_set ?_ (by omega) 1 _) (by omega) 1 _
              rw [HBk.out]; simpa [List.map_append, List.map_take] using TF.out.1)
            have OC := Lib.hid (show World.ownsRow ((wz.setCell ⟨w5.heap.size, 1, none⟩ (.slice (some ⟨gb, 0, none⟩) (k + 1) capb)).setCell ⟨w5.heap.size + 1, 1, none⟩ (.slice (some ⟨gc, 0, none⟩) (k + 1) capc)) (w5.heap.size + 2) 3 1 (.slice (some ⟨gc, 0, none⟩) (k + 1) capc) (k + 1) ((List.take (k + 1) cs).map (Value.int .i64)) from by
              refine own_set (own_set ?_ (by omega) 1 _) (by omega) 1 _
              rw [HCk.out]; simpa [List.map_append, List.map_take] using TF.out.2.1)
            have BQ := Lib.hid (show Below w5.heap.size w5 ((wz.setCell ⟨w5.heap.size, 1, none⟩ (.slice (some ⟨gb, 0, none⟩) (k + 1) capb)).setCell ⟨w5.heap.size + 1, 1, none⟩ (.slice (some ⟨gc, 0, none⟩) (k + 1) capc)) from
              ((BL.out.trans (TF.out.2.2.2.2.1.mono (by omega))).setCell (p := ⟨w5.heap.size, 1, none⟩) (Nat.le_refl _) _).setCell (p := ⟨w5.heap.size + 1, 1, none⟩) (Nat.le_succ _) _)
            clear cx
            refine wpAnyM_one (i := 15) (by kernel_rfl) rfl (fun K hK => ?_)
            go_simp
            refine hK _ _ (fun h => by cases h) ?_
            clear hK K
            refine wpAnyM_one (i := 16) (by kernel_rfl) rfl (fun K hK => ?_)
            go_simp
            refine hK _ _ (fun h => by cases h) ?_
            clear hK K
            refine wpAnyM_one (i := 17) (by kernel_rfl) rfl (fun K hK => ?_)
            go_simp
            refine hK _ _ (fun h => by cases h) ?_
            clear hK K
            refine wpAnyM_done (by kernel_rfl) ?_ _
            go_wp2_with fail
            go_roundw
            case rel =>
              refine ⟨k + 1, some ⟨gb, 0, none⟩, capb, some ⟨gc, 0, none⟩, capc, by omega, by go_num, OB.out, OC.out, TF.out.2.2.1, ?_, ?_, ?_, ?_, ?_, ?_, BQ.out, ?_⟩
              · simp [go_sem, *]
              · simp [go_sem, *]
              · simp [go_sem, *]
              · simp [go_sem, *]
              · intro o; simp [go_sem, *]
              · intro o; simp [go_sem, *]
              · simp only [World.size_setCell]; omega
            case measure => simp [intOf]; omega

        · obtain rfl : n + 1 = k := by omega
          rw [List.take_of_length_le (by have := HBn.out; omega)] at ownb
          rw [List.take_of_length_le (by have := HCn.out; omega)] at ownc
          have RB := Lib.hid (Row.of_own ownb)
          have RC := Lib.hid (Row.of_own ownc)
          have BL := Lib.hid bel
          have ca := (bel.cell (p := ⟨w1.heap.size + 1, 0, none⟩) (by show w1.heap.size + 1 < _; omega)).trans Ka.out
          have cb' := (bel.cell (p := ⟨w1.heap.size + 1, 1, none⟩) (by show w1.heap.size + 1 < _; omega)).trans Kb.out
          have TCb : 0 ≤ T * (1 + U) ∧ T * (1 + U) ≤ 100000 * 100 := ⟨Int.mul_nonneg (by omega) (by omega), Int.mul_le_mul (by omega) (by omega) (by omega) (by omega)⟩
          have LCb : 0 ≤ (1 + P) * (1 + U) ∧ (1 + P) * (1 + U) ≤ 1000 * 100 := ⟨Int.mul_nonneg (by omega) (by omega), Int.mul_le_mul (by omega) (by omega) (by omega) (by omega)⟩
          have v1 : IntKind.i64.wrap (T + B) = T + B := IntWalk.i64_in _ (by omega)
          have v2 : IntKind.i64.wrap (T * (1 + U)) = T * (1 + U) := IntWalk.i64_in _ (by omega)
          have v3 : IntKind.i64.wrap ((1 + P) * (1 + U)) = (1 + P) * (1 + U) := IntWalk.i64_in _ (by omega)
          have zr : w5.heap.size ≤ wr.heap.size := bel.size
          clear ownb ownc hfar bel fb fc hlt hk
          go_wp2_with fail
          refine (hl1.out _ _ _ (R7.out.below BL.out)).mono ?_
          rintro e w6 ⟨rfl, hb6⟩
          have z6 := hb6.size
          have c6 := Below.cells hb6
          have f6 := Below.frozens hb6
          try simp only [World.size_alloc, World.size_setCell, World.size_drew] at z6 c6 f6
          go_wp2_with fail
          have RB6 := Lib.hid (RB.out.below hb6)
          have RC6 := Lib.hid (RC.out.below hb6)
          have z6' := z6
          refine (hl2.out _ _ _ RB6.out).mono ?_
          rintro e w7 ⟨rfl, hb7⟩
          have z7 := hb7.size
          have c7 := Below.cells hb7
          have f7 := Below.frozens hb7
          try simp only [World.size_alloc, World.size_setCell, World.size_drew] at z7 c7 f7
          go_wp2_with fail
          refine (hl3.out _ _ _ (RC6.out.below hb7)).mono ?_
          rintro e w8 ⟨rfl, hb8⟩
          have z8 := hb8.size
          have c8 := Below.cells hb8
          have f8 := Below.frozens hb8
          try simp only [World.size_alloc, World.size_setCell, World.size_drew] at z8 c8 f8
          go_wp2_with fail
          go_ret
          exact ⟨by simp, B7.out.trans ((BL.out.mono zB7).trans ((hb6.mono (by omega)).trans ((hb7.mono (by omega)).trans (hb8.mono (by omega)))))⟩
end Go.Proofs.Ytlnagfmaiabhaaa

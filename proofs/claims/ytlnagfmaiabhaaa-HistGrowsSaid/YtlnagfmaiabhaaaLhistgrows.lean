import Derived.Test.YtlnagfmaiabhaaaHg
import Derived.Test.YtlnagfmaiabhaaaQV
import Derived.Test.YtlnagfmaiabhaaaVo
set_option linter.unusedSimpArgs false
set_option linter.unusedVariables false
namespace Go.Proofs.Ytlnagfmaiabhaaa
open Go Go.RowKit
theorem part_le {S p q : Int} (hS : 1 ≤ S) (hq : 1 ≤ q) (hp : 0 ≤ p ∧ p ≤ q) : max 1 ((S * p + q - 1) / q) ≤ S := by
  have h1 : S * p ≤ S * q := Int.mul_le_mul_of_nonneg_left hp.2 (by omega)
  have h2 : (S * p + q - 1) / q < S + 1 := Int.ediv_lt_of_lt_mul (by omega) (by rw [Int.add_mul]; omega)
  omega
theorem part_mono {S p p' q : Int} (hS : 0 ≤ S) (hq : 1 ≤ q) (hp : p ≤ p') : max 1 ((S * p + q - 1) / q) ≤ max 1 ((S * p' + q - 1) / q) := by
  have h1 : S * p ≤ S * p' := Int.mul_le_mul_of_nonneg_left hp hS
  have h2 := Int.ediv_le_ediv (show 0 < q by omega) (show S * p + q - 1 ≤ S * p' + q - 1 by omega)
  omega
theorem part_all {S q : Int} (hS : 1 ≤ S) (hq : 1 ≤ q) : max 1 ((S * q + q - 1) / q) = S := by
  have e : S * q + q - 1 = (q - 1) + S * q := by omega
  rw [e, Int.add_mul_ediv_right _ _ (by omega), Int.ediv_eq_zero_of_lt (by omega) (by omega)]
  omega
theorem hc_nine : sumI (hc [9]) = 1 ∧ sumI ((hc [9]).take 4) = 0 ∧ sumI ((hc [9]).take 5) = 1 := by decide
theorem map_getD (l : List Int) (f : Int → Int) {k : Nat} (h : k < l.length) : (l.map f).getD k 0 = f (l.getD k 0) := by simp [List.getD, h]

set_option maxRecDepth 100000 in
set_option maxHeartbeats 16000000 in
theorem histGrows_walk (l : List Int) (p q r : Int) (w : World) (hl : l.length = 26) (_ : (Lit.int .i64 p).wf = true) (_ : (Lit.int .i64 q).wf = true) (_ : (Lit.int .i64 r).wf = true) :
    Calls Try.prog 6 #[.agg (hv l), .int .i64 p, .int .i64 q, .int .i64 r] w fun e w' =>
      e = .returned (.bool true) ∧ Below w.heap.size w w' := by
  obtain ⟨hz48, hi48⟩ := zero_of_info info48
  obtain ⟨_, hi46⟩ := zero_of_info info46
  rw [hc_zero] at hz48
  have hs0 : ∀ w, _ := fun w => hput_hc [] 9 w (by decide) (by omega)
  rw [List.nil_append] at hs0
  have hs1 : ∀ w, _ := fun w => between_ok (hc [9]) 1 1 1 1 4 w (hc_len _) (hc_btw _ (by decide)) (by omega) (by omega) hc_nine.1 (by omega) (by omega) (by decide) (by omega) (by rw [hc_nine.2.1]; omega) (by rw [hc_nine.2.2]; omega) 8 15 (by decide)
  obtain ⟨s, hs⟩ : ∃ s, l.map (within · 1000) = s := ⟨_, rfl⟩
  have hsl : s.length = 26 := by rw [← hs, List.length_map, hl]
  have hsk : ∀ k, k < 26 → within (l.getD k 0) 1000 = s.getD k 0 := fun k hk => by rw [← hs, map_getD _ _ (by omega)]
  have hsb : Btw 0 999 s := fun x hx => by
    rw [← hs] at hx
    obtain ⟨y, _, rfl⟩ := List.mem_map.1 hx
    have := within_bd y (n := 1000) (by omega)
    omega
  have hsb1 : Btw 0 1073741824 s := fun x hx => by have := hsb x hx; omega
  obtain ⟨S, hS⟩ : ∃ S, sumI s = S := ⟨_, rfl⟩
  have hSb := sumI_bd hsb
  rw [hS, hsl] at hSb
  have b1 := within_bd q (n := 1000) (by omega)
  obtain ⟨Q, e_Q⟩ : ∃ z_, within q 1000 = z_ := ⟨_, rfl⟩
  rw [e_Q] at b1
  have HQ := Lib.hid e_Q
  clear e_Q
  have b2 := within_bd p (n := 1 + Q + 1) (by omega)
  obtain ⟨P, e_P⟩ : ∃ z_, within p (1 + Q + 1) = z_ := ⟨_, rfl⟩
  rw [e_P] at b2
  have HP := Lib.hid e_P
  clear e_P
  have b3 := within_bd r (n := 1 + Q - P + 1) (by omega)
  obtain ⟨R, e_R⟩ : ∃ z_, within r (1 + Q - P + 1) = z_ := ⟨_, rfl⟩
  rw [e_R] at b3
  have HR := Lib.hid e_R
  clear e_R
  have hn1 : S = 0 → ∀ w, _ := fun h w => between_none s P (1 + Q) S w hsl hsb1 (by omega) (by omega) hS h
  have hn2 : S = 0 → ∀ w, _ := fun h w => between_none s (P + R) (1 + Q) S w hsl hsb1 (by omega) (by omega) hS h
  have hp : 0 < S → ∃ (a b c d u v : Int), (a ≤ c ∧ b ≤ d ∧ a ≤ b) ∧
      (∀ w, Calls Try.prog 38 #[.agg (hv s), .int .i64 P, .int .i64 (1 + Q)] w fun e w' => e = .returned (.tuple #[.int .i64 a, .int .i64 b, .int .i64 0]) ∧ Below w.heap.size w w') ∧
      (∀ w, Calls Try.prog 38 #[.agg (hv s), .int .i64 (P + R), .int .i64 (1 + Q)] w fun e w' => e = .returned (.tuple #[.int .i64 c, .int .i64 d, .int .i64 0]) ∧ Below w.heap.size w w') ∧
      (∀ w, Calls Try.prog 38 #[.agg (hv s), .int .i64 (1 + Q), .int .i64 (1 + Q)] w fun e w' => e = .returned (.tuple #[.int .i64 u, .int .i64 v, .int .i64 0]) ∧ Below w.heap.size w w') ∧
      (∀ w, Calls Try.prog 38 #[.agg (hv (s.map (2 * ·))), .int .i64 (1 + Q), .int .i64 (1 + Q)] w fun e w' => e = .returned (.tuple #[.int .i64 u, .int .i64 v, .int .i64 0]) ∧ Below w.heap.size w w') := fun h => by
    have l1 := part_le (S := S) (p := P) (q := 1 + Q) (by omega) (by omega) (by omega)
    have l2 := part_le (S := S) (p := P + R) (q := 1 + Q) (by omega) (by omega) (by omega)
    have l3 := part_mono (S := S) (p := P) (p' := P + R) (q := 1 + Q) (by omega) (by omega) (by omega)
    have l4 := part_all (S := S) (q := 1 + Q) (by omega) (by omega)
    have l5 := part_all (S := 2 * S) (q := 1 + Q) (by omega) (by omega)
    obtain ⟨J, j0, j1, j2⟩ := place s hsl hsb1 (L := max 1 ((S * P + (1 + Q) - 1) / (1 + Q))) (by omega) (by omega)
    obtain ⟨K, k0, k1, k2⟩ := place s hsl hsb1 (L := max 1 ((S * (P + R) + (1 + Q) - 1) / (1 + Q))) (by omega) (by omega)
    obtain ⟨M, m0, m1, m2⟩ := place s hsl hsb1 (L := S) (by omega) (by omega)
    have hJK := place_mono hsl hsb1 k0 j1 k2 l3
    have hdl : (s.map (2 * ·)).length = 26 := by rw [List.length_map, hsl]
    have hdb : Btw 0 1073741824 (s.map (2 * ·)) := fun x hx => by
      obtain ⟨y, hy, rfl⟩ := List.mem_map.1 hx
      have := hsb y hy
      omega
    have hdS : sumI (s.map (2 * ·)) = 2 * S := by
      have := double_take s 26
      rwa [List.take_of_length_le (by omega), List.take_of_length_le (by omega), hS] at this
    refine ⟨plo J, phi J, plo K, phi K, plo M, phi M, ⟨plo_mono hJK, phi_mono hJK, (plo_le j0).1⟩, fun w => ?_, fun w => ?_, fun w => ?_, fun w => ?_⟩
    · exact between_ok s P (1 + Q) _ S J w hsl hsb1 (by omega) (by omega) hS h (by omega) rfl j0 j1 j2 _ _ (plo_phi J)
    · exact between_ok s (P + R) (1 + Q) _ S K w hsl hsb1 (by omega) (by omega) hS h (by omega) rfl k0 k1 k2 _ _ (plo_phi K)
    · exact between_ok s (1 + Q) (1 + Q) S S M w hsl hsb1 (by omega) (by omega) hS h (by omega) l4 m0 m1 m2 _ _ (plo_phi M)
    · exact between_ok (s.map (2 * ·)) (1 + Q) (1 + Q) (2 * S) (2 * S) M w hdl hdb (by omega) (by omega) hdS (by omega) (by omega) l5 m0 (by rw [double_take]; omega) (by rw [double_take]; omega) _ _ (plo_phi M)
  have hj : ∀ w, _ := fun w => hjoin_ok s s (s.map (2 * ·)) w hsl hsl (by rw [List.length_map, hsl]) hsb1 hsb1 (fun x hx => by
      obtain ⟨y, hy, rfl⟩ := List.mem_map.1 hx
      have := hsb y hy
      omega) (fun k hk => by rw [map_getD _ _ (by omega)]; omega)
  have hmix0 := mix_zero s l
  have hmixE := mix_end hsl hl
  have hset : ∀ k, k < 26 → (hv (mix k s l)).setIfInBounds k (.int .i64 (s.getD k 0)) = hv (mix (k + 1) s l) := fun k hk => by rw [hv_set, mix_set hsl hl hk]
  have hget : ∀ k, k < 26 → (hv l)[k]? = some (.int .i64 (l.getD k 0)) := fun k hk => hv_get l (by omega)
  have hgm : ∀ k, k < 26 → (hv (mix k s l))[k]? = some (.int .i64 (l.getD k 0)) := fun k hk => by rw [hv_get _ (by rw [mix_len hsl hl (by omega)]; omega), mix_get hsl (by omega)]
  obtain ⟨Z, hZ⟩ : ∃ Z, hv (hc []) = Z := ⟨_, rfl⟩
  obtain ⟨F9, hF9⟩ : ∃ Z, hv (hc [9]) = Z := ⟨_, rfl⟩
  obtain ⟨c, hc0⟩ : ∃ c, hv l = c := ⟨_, rfl⟩
  obtain ⟨D, hD⟩ : ∃ c, hv s = c := ⟨_, rfl⟩
  obtain ⟨E, hE⟩ : ∃ c, hv (s.map (2 * ·)) = c := ⟨_, rfl⟩
  have fi := hv_info (hc [9]) (hc_len _)
  have fo := hv_one (hc [9])
  have ei := hv_info (s.map (2 * ·)) (by rw [List.length_map, hsl])
  have eo := hv_one (s.map (2 * ·))
  have ci := hv_info l hl
  have di := hv_info s hsl
  have zs : Z.size = 26 := by rw [← hZ, hv_size, hc_len]
  have fs : F9.size = 26 := by rw [← hF9, hv_size, hc_len]
  have es : E.size = 26 := by rw [← hE, hv_size, List.length_map, hsl]
  have cs : c.size = 26 := by rw [← hc0, hv_size, hl]
  rw [hZ] at hz48 hs0
  rw [hF9] at hs0 hs1 fi fo
  rw [hc0] at hget ci
  rw [hc0]
  rw [hD] at hn1 hn2 hj di
  rw [hE] at hj ei eo
  rw [hD, hE] at hp
  have HT := Lib.hid Try.underlying65
  have HT46 := Lib.hid Try.underlying63
  have HFI := Lib.hid fi
  have HFO := Lib.hid fo
  have HEI := Lib.hid ei
  have HEO := Lib.hid eo
  have HDI := Lib.hid di
  have HCI := Lib.hid (show Option.map (fun x => x.size) (Try.prog.info? 63) = some c.size by rw [cs]; exact hi46)
  have HZF := Lib.hid (show Z.size = F9.size by omega)
  have HZE := Lib.hid (show Z.size = E.size by omega)
  have HS0 := Lib.hid hs0
  have HS1 := Lib.hid hs1
  have HN1 := Lib.hid hn1
  have HN2 := Lib.hid hn2
  have HP := Lib.hid hp
  have HJ := Lib.hid hj
  have HM0 := Lib.hid hmix0
  have HME := Lib.hid hmixE
  have HSet := Lib.hid hset
  have HGet := Lib.hid hget
  have HGm := Lib.hid hgm
  have HSk := Lib.hid hsk
  have HC0 := Lib.hid hc0
  have HD := Lib.hid hD
  have HLe := Lib.hid hl
  have HPP := Lib.hid (show within p (1 + Q + 1) = P by assumption)
  have q1 : IntKind.i64.wrap (1 + Q - P) = 1 + Q - P := IntWalk.i64_in _ (by omega)
  have q2 : IntKind.i64.wrap (1 + Q - P + 1) = 1 + Q - P + 1 := IntWalk.i64_in _ (by omega)
  have q3 : IntKind.i64.wrap (P + R) = P + R := IntWalk.i64_in _ (by omega)
  have qa := alloc_cells
  have qf := alloc_frozens
  clear hl hs hsl hsk hsb hsb1 hS hs0 hs1 hn1 hn2 hp hj hmix0 hmixE hset hget hgm hZ hF9 hc0 hD hE fi fo ei eo ci di zs fs es cs hi48 hi46
  go_enter Try.func6, Try.ntmps6
  have HLd := Lib.hid (heap_alloc_last w (.cells c 65))
  have HB0 := Lib.hid ((Below.refl _ w).alloc (Nat.le_refl _) (.cells c 65))
  go_wp2_with fail
  refine (HS0.out _).mono ?_
  rintro e w1 ⟨rfl, hb1⟩
  have z1 := hb1.size
  simp only [World.size_alloc] at z1
  have C1 := Lib.hid ((hb1.block w.heap.size (by simp)).trans HLd.out)
  have B1 := Lib.hid (HB0.out.trans (hb1.mono (by simp)))
  have HBlk := Lib.hid (heap_alloc_last w1 (.cells Z 65))
  have H9 := Lib.hid (setRow_at' (cs := F9) HBlk.out)
  have C2 := Lib.hid ((setRow_other (cs := F9) (show ¬ w.heap.size = w1.heap.size by omega)).trans ((Below.heap_alloc w1 (.cells Z 65) w.heap.size (by omega)).trans C1.out))
  have B2 := Lib.hid (setRow_below' (cs := F9) (B1.out.alloc (show w.heap.size ≤ w1.heap.size by omega) (.cells Z 65)) (show w.heap.size ≤ w1.heap.size by omega))
  have s2 := setRow_size (w1.alloc (.cells Z 65)) w1.heap.size F9
  rw [World.size_alloc] at s2
  clear hb1
  go_wp2_with (first | (refine wpList_store_row rfl _ _ _ rfl w1.heap.size F9 rfl rfl _ _ HBlk.out HFI.out HZF.out HFO.out ?_) | (refine wpList_load_row rfl _ _ rfl w1.heap.size rfl _ F9 (0, 0) _ H9.out HT.out rfl HFI.out ?_))
  generalize (w1.alloc (.cells Z 65)).setRow w1.heap.size F9 = wX at *
  refine (HS1.out _).mono ?_
  rintro e w3 ⟨rfl, hb3⟩
  have z3 := hb3.size
  have C3 := Lib.hid ((hb3.block w.heap.size (by omega)).trans C2.out)
  have B3 := Lib.hid (B2.out.trans (hb3.mono (by omega)))
  clear hb3
  go_wp2_with (refine wpList_load_row rfl _ _ rfl w.heap.size rfl _ c (0, 0) _ C3.out HT46.out rfl HCI.out ?_)
  go_loopw [57] (fun i wr => ∃ k : Nat, k ≤ 26 ∧ i = .int .i64 k ∧ Below w.heap.size w wr ∧ w.heap.size + 1 ≤ wr.heap.size ∧ wr.heap[w.heap.size]? = some (.cells (hv (mix k s l)) 65 (0, 0))) (fun i _ => 26 - (intOf i).toNat)
  case atStart => exact ⟨0, Nat.zero_le _, rfl, B3.out, by omega, by rw [HM0.out, HC0.out]; exact C3.out⟩
  case round =>
    obtain ⟨k, hk, rfl, bel, hsz, h0⟩ := hrel
    have H0 := Lib.hid h0
    by_cases hlt : k < 26
    · have hcell := cell_hv h0 k (HGm.out k hlt)
      have hfz := frozen_row h0 k
      obtain ⟨x, hx⟩ : ∃ x, l.getD k 0 = x := ⟨_, rfl⟩
      obtain ⟨y, hy⟩ : ∃ x, s.getD k 0 = x := ⟨_, rfl⟩
      have hxg := HGet.out k hlt
      have hyk := HSk.out k hlt
      have hst := HSet.out k hlt
      rw [hx] at hxg hyk hcell
      rw [hy] at hyk hst
      have hix := run_index26 wr c k x hlt hxg
      have HY := Lib.hid hyk
      have HSt := Lib.hid hst
      have k0 : (0 : Int) ≤ k := by omega
      have k1 : (k : Int) < 26 := by omega
      clear hxg hyk hst hx hy h0
      go_wp2_with fail
      refine (within_any x 1000 y _ (by omega) (by omega) HY.out).mono ?_
      rintro e w' ⟨rfl, rfl⟩
      go_wp2_with fail
      go_roundw
      case rel => exact ⟨k + 1, by omega, by go_num, bel.setCell (Nat.le_refl _) _, by simp; omega, by rw [setCell_at H0.out, HSt.out]⟩
      case measure => simp [intOf]; omega
    · obtain rfl : k = 26 := by omega
      rw [HME.out, HD.out] at h0
      have HD0 := Lib.hid h0
      clear h0 H0
      go_wp2_with fail
      refine (within_any q 1000 Q _ (by omega) (by omega) HQ.out).mono ?_
      rintro e w' ⟨rfl, rfl⟩
      go_wp2_with fail
      refine (within_any p (1 + Q + 1) P _ (by omega) (by omega) HPP.out).mono ?_
      rintro e w' ⟨rfl, rfl⟩
      go_wp2_with (refine wpList_load_row rfl _ _ rfl w.heap.size rfl _ D (0, 0) _ HD0.out HT.out rfl HDI.out ?_)
      by_cases hS0 : S = 0
      · refine (HN1.out hS0 _).mono ?_
        rintro e w4 ⟨rfl, hb4⟩
        have z4 := hb4.size
        have D4 := Lib.hid ((hb4.block w.heap.size (by omega)).trans HD0.out)
        have B4 := Lib.hid (bel.trans (hb4.mono (by omega)))
        have N2 := Lib.hid (HN2.out hS0)
        clear hb4 hS0
        go_wp2_with fail
        refine wp_region_quiet_all (Ext _) (by kernel_rfl) (by kernel_rfl) (Ext.drawn _) ?_
        repeat (first | (refine BigFrame.wpQuiet_want rfl (fun K hK => ?_); refine ⟨.agg D, fun w2 h2 => quietAt_load_row 65 _ rfl w.heap.size rfl _ D (0, 0) _ ((h2.below.block _ (by omega)).trans D4.out) HT.out rfl HDI.out, ?_⟩; go_simp; refine hK _ ?_; clear hK K) | go_big_quiet_skip | go_big_quiet_step (fail) | (refine BigFrame.wpQuiet_want rfl (fun K hK => ?_); apply Exists.intro; refine ⟨fun w2 h2 => ?_, ?_⟩; (next => (have g1 := Below.cells h2.below; have g2 := Below.frozens h2.below; (try simp only [World.size_alloc, World.size_setCell] at g1 g2); first | (go_simp; (first | (go_at_call 21; refine h2.calls (same_below (within_any r (1 + Q - P + 1) R _ (by omega) (by omega) HR.out))) | (go_at_call 38; refine h2.calls (N2.out _)))) | (simp [go_sem, ↓IntWalk.iteOmega, *]; done) | (simp [go_sem, ↓IntWalk.iteOmega, *]; rfl)))); (go_simp; refine hK _ ?_; clear hK K))
        refine wpQuiet_nil ?_
        intro w5 h5
        have hb5 := h5.below
        clear h5
        have z5 := hb5.size
        have c5 := Below.cells hb5
        have f5 := Below.frozens hb5
        try simp only [World.size_alloc, World.size_setCell, World.size_drew] at z5 c5 f5
        go_wp2_with fail
        go_ret
        exact ⟨rfl, B4.out.trans (hb5.mono B4.out.size)⟩
      · obtain ⟨a, b, a', b', u, v, ⟨o1, o2, o3⟩, p1, p2, p3, p4⟩ := HP.out (by have := hSb; omega)
        have P2 := Lib.hid p2
        have P3 := Lib.hid p3
        have P4 := Lib.hid p4
        clear p2 p3 p4
        refine (p1 _).mono ?_
        rintro e w4 ⟨rfl, hb4⟩
        have z4 := hb4.size
        have D4 := Lib.hid ((hb4.block w.heap.size (by omega)).trans HD0.out)
        have B4 := Lib.hid (bel.trans (hb4.mono (by omega)))
        clear hb4 hS0 p1
        go_wp2_with fail
        refine wp_region_quiet_all (Ext _) (by kernel_rfl) (by kernel_rfl) (Ext.drawn _) ?_
        repeat (first | (refine BigFrame.wpQuiet_want rfl (fun K hK => ?_); refine ⟨.agg D, fun w2 h2 => quietAt_load_row 65 _ rfl w.heap.size rfl _ D (0, 0) _ ((h2.below.block _ (by omega)).trans D4.out) HT.out rfl HDI.out, ?_⟩; go_simp; refine hK _ ?_; clear hK K) | go_big_quiet_skip | go_big_quiet_step (fail) | (refine BigFrame.wpQuiet_want rfl (fun K hK => ?_); apply Exists.intro; refine ⟨fun w2 h2 => ?_, ?_⟩; (next => (have g1 := Below.cells h2.below; have g2 := Below.frozens h2.below; (try simp only [World.size_alloc, World.size_setCell] at g1 g2); first | (go_simp; (first | (go_at_call 21; refine h2.calls (same_below (within_any r (1 + Q - P + 1) R _ (by omega) (by omega) HR.out))) | (go_at_call 38; refine h2.calls (P2.out _)))) | (simp [go_sem, ↓IntWalk.iteOmega, *]; done) | (simp [go_sem, ↓IntWalk.iteOmega, *]; rfl)))); (go_simp; refine hK _ ?_; clear hK K))
        refine wpQuiet_nil ?_
        intro w5 h5
        have hb5 := h5.below
        clear h5
        have z5 := hb5.size
        have D5 := Lib.hid ((hb5.block w.heap.size (by omega)).trans D4.out)
        have B5 := Lib.hid (B4.out.trans (hb5.mono B4.out.size))
        clear hb5
        go_wp2_with (refine wpList_load_row rfl _ _ rfl w.heap.size rfl _ D (0, 0) _ D5.out HT.out rfl HDI.out ?_)
        refine (HJ.out _).mono ?_
        rintro e w6 ⟨rfl, hb6⟩
        have z6 := hb6.size
        have D6 := Lib.hid ((hb6.block w.heap.size (by omega)).trans D5.out)
        have B6 := Lib.hid (B5.out.trans (hb6.mono B5.out.size))
        have HB6 := Lib.hid (heap_alloc_last w6 (.cells Z 65))
        have H6 := Lib.hid (setRow_at' (cs := E) HB6.out)
        have D7 := Lib.hid ((setRow_other (cs := E) (show ¬ w.heap.size = w6.heap.size by omega)).trans ((Below.heap_alloc w6 (.cells Z 65) w.heap.size (by omega)).trans D6.out))
        have B7 := Lib.hid (setRow_below' (cs := E) (B6.out.alloc (show w.heap.size ≤ w6.heap.size by omega) (.cells Z 65)) (show w.heap.size ≤ w6.heap.size by omega))
        have s7 := setRow_size (w6.alloc (.cells Z 65)) w6.heap.size E
        rw [World.size_alloc] at s7
        clear hb6
        go_wp2_with (first | (refine wpList_store_row rfl _ _ _ rfl w6.heap.size E rfl rfl _ _ HB6.out HEI.out HZE.out HEO.out ?_) | (refine wpList_load_row rfl _ _ rfl w6.heap.size rfl _ E (0, 0) _ H6.out HT.out rfl HEI.out ?_))
        generalize (w6.alloc (.cells Z 65)).setRow w6.heap.size E = wY at *
        refine (P4.out _).mono ?_
        rintro e w8 ⟨rfl, hb8⟩
        have z8 := hb8.size
        have D8 := Lib.hid ((hb8.block w.heap.size (by omega)).trans D7.out)
        have B8 := Lib.hid (B7.out.trans (hb8.mono (by omega)))
        clear hb8
        go_wp2_with (refine wpList_load_row rfl _ _ rfl w.heap.size rfl _ D (0, 0) _ D8.out HT.out rfl HDI.out ?_)
        refine (P3.out _).mono ?_
        rintro e w9 ⟨rfl, hb9⟩
        have B9 := Lib.hid (B8.out.trans (hb9.mono (by omega)))
        clear hb9
        go_wp2_with fail
        go_ret
        exact ⟨by simp [*], B9.out⟩
end Go.Proofs.Ytlnagfmaiabhaaa

/-
  The walk of prod.Div.
-/
import Derived.Test.YtlnagfmaiabhaaaD64
import Derived.Test.YtlnagfmaiabhaaaDp
import Derived.Test.YtlnagfmaiabhaaaW4
import Derived.Test.YtlnagfmaiabhaaaQA
import Derived.RegionTactic
import Derived.BigRegion
set_option linter.unusedSimpArgs false
set_option linter.unusedVariables false
namespace Go.Proofs.Ytlnagfmaiabhaaa
open Go.RowKit

theorem makes_wd {o : Oper} (h : o.op = .alloc 24) (hg : o.guard = none) : Makes Try.prog o #[.int .u64 0, .int .u64 0] 24 :=
  ⟨hg, fun ev w => by unfold execOp; rw [h]; simp [go_sem]⟩
theorem cmp_ge (a b : Int) {ah al bh bl : Int} (ha : Wd a ah al) (hb : Wd b bh bl) (h : b ≤ a) : ∃ z : Int, 0 ≤ z ∧ ∀ w, Calls Try.prog 15 #[.agg #[.int .u64 ah, .int .u64 al], .agg #[.int .u64 bh, .int .u64 bl]] w fun e w' => e = .returned (.int .i64 z) ∧ Below w.heap.size w w' := by
  rcases (by omega : b = a ∨ b < a) with rfl | c
  · exact ⟨0, by omega, fun w => cmp_eq b ha hb w⟩
  · exact ⟨1, by omega, fun w => cmp_gt a b ha hb c w⟩

set_option maxRecDepth 100000 in
set_option maxHeartbeats 1000000 in
theorem div_zero (a : Int) (w : World) :
    Calls Try.prog 66 #[.agg #[.int .u64 (hi a), .int .u64 (lo a)], .agg #[.int .u64 0, .int .u64 0]] w fun e w' =>
      e = .returned (.tuple #[.agg #[.int .u64 0, .int .u64 0], .agg #[.int .u64 0, .int .u64 0], .int .i64 6]) ∧ Below w.heap.size w w' := by
  go_enter Try.func66, Try.ntmps66
  go_wp2_with fail
  refine bodyPost_ret (v := .tuple #[.agg #[.int .u64 0, .int .u64 0], .agg #[.int .u64 0, .int .u64 0], .int .i64 6]) (by simp [results, Try.results66, go_sem]) rfl ?_
  exact ⟨rfl, (by repeat (first | (with_reducible exact Below.refl _ _) | ((with_reducible refine Below.alloc ?_ ?_ _); rotate_left; (next => ((try dsimp only); (try simp only [World.size_alloc, World.size_setCell, World.size_drew]); omega))) | ((with_reducible refine Below.setCell ?_ ?_ _); rotate_left; (next => ((try dsimp only); (try simp only [World.size_alloc, World.size_setCell, World.size_drew]); omega))) | (with_reducible refine Below.drew ?_) | (refine Below.trans ?_ (by assumption))))⟩

set_option maxRecDepth 100000 in
set_option maxHeartbeats 2000000 in
theorem div_less (a b : Int) {ah al bh bl : Int} (ha : Wd a ah al) (hb : Wd b bh bl) (h : a < b) (w : World) :
    Calls Try.prog 66 #[.agg #[.int .u64 ah, .int .u64 al], .agg #[.int .u64 bh, .int .u64 bl]] w fun e w' =>
      e = .returned (.tuple #[.agg #[.int .u64 0, .int .u64 0], .agg #[.int .u64 ah, .int .u64 al], .int .i64 0]) ∧ Below w.heap.size w w' := by
  have hn : (¬ bh = 0) ∨ (bh = 0 ∧ ¬ bl = 0) := by
    obtain ⟨a1, rfl, rfl⟩ := ha
    obtain ⟨b1, rfl, rfl⟩ := hb
    unfold U128 hi lo at *; omega
  obtain ⟨z, hz, hc⟩ : ∃ z : Int, z < 0 ∧ ∀ w, Calls Try.prog 15 #[.agg #[.int .u64 ah, .int .u64 al], .agg #[.int .u64 bh, .int .u64 bl]] w fun e w' => e = .returned (.int .i64 z) ∧ Below w.heap.size w w' := ⟨-1, by omega, fun w => cmp_lt a b ha hb h w⟩
  have hzd : decide (z < 0) = true := by simpa using hz
  clear ha hb h
  have qa := alloc_cells
  have qf := alloc_frozens
  rcases hn with hn | ⟨rfl, hn⟩
  all_goals
    have HC := Lib.hid hc
    clear hc
    go_enter Try.func66, Try.ntmps66
    go_wp2_with fail
    refine (HC.out _).mono ?_
    rintro e w1 ⟨rfl, hb1⟩
    have z1 := hb1.size
    have c1 := Below.cells hb1
    have f1 := Below.frozens hb1
    try simp only [World.size_alloc, World.size_setCell, World.size_drew] at z1 c1 f1
    go_wp2_with fail
    go_region
    all_goals go_wp2_with fail
    refine bodyPost_ret (v := .tuple #[.agg #[.int .u64 0, .int .u64 0], .agg #[.int .u64 ah, .int .u64 al], .int .i64 0]) (by simp [results, Try.results66, go_sem, ↓IntWalk.iteOmega, *]) rfl ?_
    exact ⟨rfl, (by repeat (first | (with_reducible exact Below.refl _ _) | ((with_reducible refine Below.alloc ?_ ?_ _); rotate_left; (next => ((try dsimp only); (try simp only [World.size_alloc, World.size_setCell, World.size_drew]); omega))) | ((with_reducible refine Below.setCell ?_ ?_ _); rotate_left; (next => ((try dsimp only); (try simp only [World.size_alloc, World.size_setCell, World.size_drew]); omega))) | (with_reducible refine Below.drew ?_) | ((with_reducible refine Below.trans ?_ (Below.mono hb2 ?_)); rotate_left; (next => ((try dsimp only); (try simp only [World.size_alloc, World.size_setCell, World.size_drew]); omega))) | ((with_reducible refine Below.trans ?_ (Below.mono hb1 ?_)); rotate_left; (next => ((try dsimp only); (try simp only [World.size_alloc, World.size_setCell, World.size_drew]); omega)))))⟩

set_option maxRecDepth 100000 in
set_option maxHeartbeats 2000000 in
theorem div_low (a b q r : Int) (ha : U128 a) (hb : U64 b) (h0 : 0 < b) (h : b ≤ a) (hq : a / b = q) (hr : a % b = r) (w : World) :
    Calls Try.prog 66 #[.agg #[.int .u64 (hi a), .int .u64 (lo a)], .agg #[.int .u64 0, .int .u64 b]] w fun e w' =>
      e = .returned (.tuple #[.agg #[.int .u64 (hi q), .int .u64 (lo q)], .agg #[.int .u64 0, .int .u64 r], .int .i64 0]) ∧ Below w.heap.size w w' := by
  have hne : ¬ b = 0 := by omega
  obtain ⟨z, hz, hc⟩ := cmp_ge a b (Wd.mk ha) (Wd.lit hb) h
  have hzd : decide (z < 0) = false := by simp; omega
  have b1 := Int.ediv_nonneg ha.hi.1 (show 0 ≤ b by omega)
  have b2 := Int.ediv_le_self b ha.hi.1
  have b3 := Int.emod_nonneg (hi a) hne
  have b4 := Int.emod_lt_of_pos (hi a) h0
  have u1 := ha.hi
  have u2 := ha.lo
  obtain ⟨g, hg⟩ : ∃ g, hi a / b = g := ⟨_, rfl⟩
  obtain ⟨k, hk⟩ : ∃ k, hi a % b = k := ⟨_, rfl⟩
  obtain ⟨m, hm⟩ : ∃ m, (k * 18446744073709551616 + lo a) / b = m := ⟨_, rfl⟩
  rw [hg] at b1 b2
  rw [hk] at b3 b4
  have hd := Int.emod_add_mul_ediv (hi a) b
  have ea : a = (k * 18446744073709551616 + lo a) + b * (g * 18446744073709551616) := by
    rw [hg, hk] at hd
    have e1 : b * (g * 18446744073709551616) = b * g * 18446744073709551616 := by grind
    have e2 : a = hi a * 18446744073709551616 + lo a := by unfold hi lo; omega
    omega
  have hqq : q = g * 18446744073709551616 + m := by rw [← hq, ea, Int.add_mul_ediv_left _ _ hne, hm]; omega
  have hrr : (k * 18446744073709551616 + lo a) % b = r := by rw [← hr]; conv => rhs; rw [ea, Int.add_mul_emod_self_left]
  have mb : 0 ≤ m ∧ m < 18446744073709551616 := by
    rw [← hm]
    refine ⟨Int.ediv_nonneg (by have := u2.1; omega) (by omega), Int.ediv_lt_of_lt_mul h0 ?_⟩
    unfold U64 at u2; omega
  have hq1 : hi q = g := by rw [hqq]; unfold hi; omega
  have hq2 : lo q = m := by rw [hqq]; unfold lo; omega
  have uk : U64 k := by unfold U64 at *; omega
  have hdv := fun w => div64_ok k (lo a) b m r uk u2 hb b4 hm hrr w
  rw [hq1, hq2]
  unfold U64 at u1 u2 hb
  have t1 : (hi a).tdiv b = g := by rw [Int.tdiv_eq_ediv_of_nonneg u1.1, hg]
  have t2 : (hi a).tmod b = k := by rw [Int.tmod_eq_emod_of_nonneg u1.1, hk]
  have t3 : IntKind.u64.wrap g = g := by rw [IntKind.wrap_u64]; omega
  have t4 : IntKind.u64.wrap k = k := by rw [IntKind.wrap_u64]; omega
  have HC := Lib.hid hc
  have HD := Lib.hid hdv
  clear hc hdv ha h hq hr hd ea hqq hrr hq1 hq2 hm mb uk
  have qa := alloc_cells
  have qf := alloc_frozens
  go_enter Try.func66, Try.ntmps66
  go_wp2_with fail
  refine (HC.out _).mono ?_
  rintro e w1 ⟨rfl, hb1⟩
  have z1 := hb1.size
  have c1 := Below.cells hb1
  have f1 := Below.frozens hb1
  try simp only [World.size_alloc, World.size_setCell, World.size_drew] at z1 c1 f1
  go_wp2_with fail
  refine wp_region_quiet_all (Ext _) (by kernel_rfl) (by kernel_rfl) (Ext.drawn _) ?_
  repeat (first | go_big_quiet_skip | go_big_quiet_step (fail) | (refine BigFrame.wpQuiet_want rfl (fun K hK => ?_); apply Exists.intro; refine ⟨fun w2 h2 => ?_, ?_⟩; (next => (have g1 := Below.cells h2.below; have g2 := Below.frozens h2.below; (try simp only [World.size_alloc, World.size_setCell] at g1 g2); first | (go_simp; (fail)) | (simp [go_sem, ↓IntWalk.iteOmega, *]; done) | (simp [go_sem, ↓IntWalk.iteOmega, *]; rfl)))); (go_simp; refine hK _ ?_; clear hK K))
  refine wpQuiet_nil ?_
  intro w2 h2
  have hb2 := h2.below
  clear h2
  have z2 := hb2.size
  have c2 := Below.cells hb2
  have f2 := Below.frozens hb2
  try simp only [World.size_alloc, World.size_setCell, World.size_drew] at z2 c2 f2
  go_wp2_with fail
  refine (HD.out _).mono ?_
  rintro e w3 ⟨rfl, hb3⟩
  have z3 := hb3.size
  have c3 := Below.cells hb3
  have f3 := Below.frozens hb3
  try simp only [World.size_alloc, World.size_setCell, World.size_drew] at z3 c3 f3
  go_wp2_with fail
  refine bodyPost_ret (v := .tuple #[.agg #[.int .u64 g, .int .u64 m], .agg #[.int .u64 0, .int .u64 r], .int .i64 0]) (by simp [results, Try.results66, go_sem, ↓IntWalk.iteOmega, *]) rfl ?_
  exact ⟨rfl, (by repeat (first | (with_reducible exact Below.refl _ _) | ((with_reducible refine Below.alloc ?_ ?_ _); rotate_left; (next => ((try dsimp only); (try simp only [World.size_alloc, World.size_setCell, World.size_drew]); omega))) | ((with_reducible refine Below.setCell ?_ ?_ _); rotate_left; (next => ((try dsimp only); (try simp only [World.size_alloc, World.size_setCell, World.size_drew]); omega))) | (with_reducible refine Below.drew ?_) | ((with_reducible refine Below.trans ?_ (Below.mono hb3 ?_)); rotate_left; (next => ((try dsimp only); (try simp only [World.size_alloc, World.size_setCell, World.size_drew]); omega))) | ((with_reducible refine Below.trans ?_ (Below.mono hb2 ?_)); rotate_left; (next => ((try dsimp only); (try simp only [World.size_alloc, World.size_setCell, World.size_drew]); omega))) | ((with_reducible refine Below.trans ?_ (Below.mono hb1 ?_)); rotate_left; (next => ((try dsimp only); (try simp only [World.size_alloc, World.size_setCell, World.size_drew]); omega)))))⟩

set_option maxRecDepth 100000 in
set_option maxHeartbeats 8000000 in
theorem div_bits (a b q r : Int) (ha : U128 a) (hb : U128 b) (h0 : 18446744073709551616 ≤ b) (h : b ≤ a) (hq : a / b = q) (hr : a % b = r) (w : World) :
    Calls Try.prog 66 #[.agg #[.int .u64 (hi a), .int .u64 (lo a)], .agg #[.int .u64 (hi b), .int .u64 (lo b)]] w fun e w' =>
      e = .returned (.tuple #[.agg #[.int .u64 0, .int .u64 q], .agg #[.int .u64 (hi r), .int .u64 (lo r)], .int .i64 0]) ∧ Below w.heap.size w w' := by
  have hn : ¬ hi b = 0 := by unfold hi; omega
  obtain ⟨z, hz, hc⟩ := cmp_ge a b (Wd.mk ha) (Wd.mk hb) h
  have hzd : decide (z < 0) = false := by simp; omega
  obtain ⟨K, hK, K63, hfit⟩ := dv_len ha hb h h0
  have st := dvR_start ha hb h (by omega) hK
  have bd := blen_bd ha
  have bd2 := blen_bd hb
  have hl1 := fun w => len_any a (Wd.mk ha) w
  have hl2 := fun w => len_any b (Wd.mk hb) w
  have hup : ∀ m : Nat, m ≤ K → ∀ w, _ := fun m hm w => up_any b m (Wd.mk hb) w (by omega) (by omega)
  have hKw : IntKind.i64.wrap (K : Int) = K := IntWalk.i64_in _ (by omega)
  have HC := Lib.hid hc
  have HFit := Lib.hid hfit
  have HUp := Lib.hid hup
  have HL1 := Lib.hid hl1
  have HL2 := Lib.hid hl2
  have ST := Lib.hid st
  have HQ := Lib.hid hq
  have HR := Lib.hid hr
  have HA := Lib.hid ha
  clear hc hfit hup hl1 hl2 st hq hr ha h
  have qa := alloc_cells
  have qf := alloc_frozens
  go_enter Try.func66, Try.ntmps66
  go_wp2_with fail
  refine (HC.out _).mono ?_
  rintro e w1 ⟨rfl, hb1⟩
  have z1 := hb1.size
  have c1 := Below.cells hb1
  have f1 := Below.frozens hb1
  try simp only [World.size_alloc, World.size_setCell, World.size_drew] at z1 c1 f1
  go_wp2_with fail
  refine wp_region_quiet_all (Ext _) (by kernel_rfl) (by kernel_rfl) (Ext.drawn _) ?_
  repeat (first | go_big_quiet_skip | go_big_quiet_step (fail) | (refine BigFrame.wpQuiet_want rfl (fun K hK => ?_); apply Exists.intro; refine ⟨fun w2 h2 => ?_, ?_⟩; (next => (have g1 := Below.cells h2.below; have g2 := Below.frozens h2.below; (try simp only [World.size_alloc, World.size_setCell] at g1 g2); first | (go_simp; (first | (go_at_call_of 17 (Value.agg #[.int .u64 (hi a), .int .u64 (lo a)]); refine h2.calls (HL1.out _)) | (go_at_call_of 17 (Value.agg #[.int .u64 (hi b), .int .u64 (lo b)]); refine h2.calls (HL2.out _)))) | (simp [go_sem, ↓IntWalk.iteOmega, *]; done) | (simp [go_sem, ↓IntWalk.iteOmega, *]; rfl)))); (go_simp; refine hK _ ?_; clear hK K))
  refine wpQuiet_nil ?_
  intro w2 h2
  have hb2 := h2.below
  clear h2
  have z2 := hb2.size
  have c2 := Below.cells hb2
  have f2 := Below.frozens hb2
  try simp only [World.size_alloc, World.size_setCell, World.size_drew] at z2 c2 f2
  go_wp2_with fail
  go_loopw [10, 11] (fun q n wr => ∃ (m : Nat) (v x y : Int), Hid (DvR a b K m x y) ∧ v + 1 = m ∧ m ≤ K + 1 ∧ q = .int .u64 y ∧ n = .int .i64 v ∧
      wr.cell? ⟨w.heap.size, 0, none⟩ = some (.int .u64 (hi x)) ∧ wr.cell? ⟨w.heap.size, 1, none⟩ = some (.int .u64 (lo x)) ∧
      wr.frozen? ⟨w.heap.size, 0, none⟩ = false ∧ wr.frozen? ⟨w.heap.size, 1, none⟩ = false ∧
      wr.cell? ⟨w.heap.size + 1, 0, none⟩ = some (.int .u64 (hi b)) ∧ wr.cell? ⟨w.heap.size + 1, 1, none⟩ = some (.int .u64 (lo b)) ∧
      wr.cell? ⟨w.heap.size + 1 + 1, 0, none⟩ = some (.int .u64 0) ∧ wr.cell? ⟨w.heap.size + 1 + 1, 1, none⟩ = some (.int .u64 0) ∧
      wr.frozen? ⟨w.heap.size + 1 + 1, 0, none⟩ = false ∧ wr.frozen? ⟨w.heap.size + 1 + 1, 1, none⟩ = false ∧
      wr.cell? ⟨w.heap.size + 1 + 1 + 1, 0, none⟩ = some (.int .u64 0) ∧ wr.cell? ⟨w.heap.size + 1 + 1 + 1, 1, none⟩ = some (.int .u64 0) ∧
      wr.frozen? ⟨w.heap.size + 1 + 1 + 1, 0, none⟩ = false ∧ wr.frozen? ⟨w.heap.size + 1 + 1 + 1, 1, none⟩ = false ∧
      w.heap.size + 4 ≤ wr.heap.size ∧ Below w.heap.size w wr)
    (fun _ n _ => (intOf n + 1).toNat)
  case atStart => exact ⟨K + 1, (K : Int), a, 0, ST, by omega, Nat.le_refl _, rfl, rfl, by simp [go_sem, ↓IntWalk.iteOmega, *], by simp [go_sem, ↓IntWalk.iteOmega, *], by simp [go_sem, ↓IntWalk.iteOmega, *], by simp [go_sem, ↓IntWalk.iteOmega, *], by simp [go_sem, ↓IntWalk.iteOmega, *], by simp [go_sem, ↓IntWalk.iteOmega, *], by simp [go_sem, ↓IntWalk.iteOmega, *], by simp [go_sem, ↓IntWalk.iteOmega, *], by simp [go_sem, ↓IntWalk.iteOmega, *], by simp [go_sem, ↓IntWalk.iteOmega, *], by simp [go_sem, ↓IntWalk.iteOmega, *], by simp [go_sem, ↓IntWalk.iteOmega, *], by simp [go_sem, ↓IntWalk.iteOmega, *], by simp [go_sem, ↓IntWalk.iteOmega, *], by omega, (by repeat (first | (with_reducible exact Below.refl _ _) | ((with_reducible refine Below.alloc ?_ ?_ _); rotate_left; (next => ((try dsimp only); (try simp only [World.size_alloc, World.size_setCell, World.size_drew]); omega))) | ((with_reducible refine Below.setCell ?_ ?_ _); rotate_left; (next => ((try dsimp only); (try simp only [World.size_alloc, World.size_setCell, World.size_drew]); omega))) | (with_reducible refine Below.drew ?_) | ((with_reducible refine Below.trans ?_ (Below.mono hb2 ?_)); rotate_left; (next => ((try dsimp only); (try simp only [World.size_alloc, World.size_setCell, World.size_drew]); omega))) | ((with_reducible refine Below.trans ?_ (Below.mono hb1 ?_)); rotate_left; (next => ((try dsimp only); (try simp only [World.size_alloc, World.size_setCell, World.size_drew]); omega)))))⟩
  case round =>
    obtain ⟨m, v, x, y, HD, hvm, hm, rfl, rfl, k0, k1, g0, g1, k2, k3, k4, k5, g4, g5, k6, k7, g6, g7, sz, bel⟩ := hrel
    clear c1 f1 z1 hb1 c2 f2 z2 hb2 bd bd2
    have dbd := dv_bd HD.out K63 hb.1 HA.out
    rcases Nat.eq_zero_or_pos m with rfl | hm0
    · have hv : v < 0 := by omega
      have hend := dvR_end HD.out (by omega)
      rw [HQ.out, HR.out] at hend
      obtain ⟨rfl, rfl⟩ := hend
      clear hvm dbd
      go_wp2_with fail
      go_region
      go_wp2_with fail
      refine bodyPost_ret (v := .tuple #[.agg #[.int .u64 0, .int .u64 q], .agg #[.int .u64 (hi r), .int .u64 (lo r)], .int .i64 0]) (by simp [results, Try.results66, go_sem, ↓IntWalk.iteOmega, *]) rfl ?_
      exact ⟨rfl, (by repeat (first | (with_reducible exact Below.refl _ _) | ((with_reducible refine Below.alloc ?_ ?_ _); rotate_left; (next => ((try dsimp only); (try simp only [World.size_alloc, World.size_setCell, World.size_drew]); omega))) | ((with_reducible refine Below.setCell ?_ ?_ _); rotate_left; (next => ((try dsimp only); (try simp only [World.size_alloc, World.size_setCell, World.size_drew]); omega))) | (with_reducible refine Below.drew ?_) | (with_reducible exact bel)))⟩
    · obtain ⟨m, rfl⟩ : ∃ m', m = m' + 1 := ⟨m - 1, by omega⟩
      obtain rfl : v = (m : Int) := by omega
      clear hvm
      have uB := HFit.out m (by omega)
      obtain ⟨B, hB⟩ : ∃ B, up b (m : Int) = B := ⟨_, rfl⟩
      have hB2 : B = b * 2 ^ m := by rw [← hB]; exact up_fits (n := (m : Int)) uB
      rw [← hB2] at uB
      have hupc := HUp.out m (by omega)
      rw [hB] at hupc
      have HUc := Lib.hid hupc
      obtain ⟨uy, ux, hsum⟩ := dbd
      have UX := Lib.hid ux
      have UB := Lib.hid uB
      have HB2 := Lib.hid hB2
      clear hupc hB hB2 uB ux
      by_cases hc : B ≤ x
      · have hn := dvR_yes HD.out (by rw [← HB2.out]; exact hc)
        rw [← HB2.out] at hn
        have hsub : ∀ w, _ := fun w => sub_ok x B (x - B) (Wd.mk UX.out) (Wd.mk UB.out) rfl (by have a := UX.out; have b := UB.out; unfold U128 at *; omega) w
        have HS := Lib.hid hsub
        have HN := Lib.hid hn
        clear hsub hn
        go_wp2_with fail
        refine wp_region_rest 8 (by kernel_rfl) (by kernel_rfl) ?_
        simp only [List.take_succ_cons, List.take_zero, List.drop_succ_cons, List.drop_zero]
        repeat (first | (refine wpMild_skip rfl ?_) | (refine wpMild_step rfl (fun K hK => ?_); apply Exists.intro; refine ⟨fun w2 h2 => ?_, ?_⟩; (next => (have h2' := Below.undrew h2; have g1 := Below.cells h2'; have g2 := Below.frozens h2'; (try simp only [World.size_alloc, World.size_setCell] at g1 g2); clear h2 h2'; unfold mildAt; first | (go_simp; simp only [mildUpon, true_and]; (first | (go_at_call 90; refine HUc.out _) | (go_at_call 16; refine HS.out _))) | (simp [mildUpon, go_sem, ↓IntWalk.iteOmega, *]; done) | (simp [mildUpon, go_sem, ↓IntWalk.iteOmega, *]; (try go_ints); rfl)))); (go_simp; refine hK _ ?_; clear hK K))
        refine wpMild_nil ?_
        refine rest_make _ _ rfl (makes_wd rfl rfl) (fun b3 _ => ?_)
        rw [oneBlock_of]
        go_simp
        refine rest_tail ?_ rfl rfl (fun w2 hw2 => ?_) ?_
        rotate_left
        next =>
          obtain ⟨d2, e2⟩ := block_cells hw2.one.2
          unfold tailAt
          simp [tailUpon, go_sem, ↓IntWalk.iteOmega, *]
          exact ((hw2).one_set 0 _).one_set 1 _
        repeat (first | (refine rest_nil ?_) | (refine rest_mild rfl (fun K hK => ?_); apply Exists.intro; refine ⟨fun w2 h2 => ?_, ?_⟩; (next => (unfold mildAt; first | (simp [mildUpon, go_sem]; done) | (simp [mildUpon, go_sem]; rfl))); (go_simp; refine hK _ ?_; clear hK K)))
        intro w3 st3
        have hb3 := Below.undrew st3.below
        obtain ⟨lo3, blk3⟩ := st3.one
        have up3 := st3.one_lt
        obtain ⟨d3, e3⟩ := block_cells blk3
        clear st3 blk3
        try simp only [World.size_alloc, World.size_setCell, World.size_drew] at lo3
        have z3 := hb3.size
        have c3 := Below.cells hb3
        have f3 := Below.frozens hb3
        try simp only [World.size_alloc, World.size_setCell, World.size_drew] at z3 c3 f3
        go_wp2_with fail
        have q0 : w3.cell? ⟨w.heap.size, 0, none⟩ = some (.int .u64 (hi x)) := by simp [go_sem, ↓IntWalk.iteOmega, *]
        have q1 : w3.cell? ⟨w.heap.size, 1, none⟩ = some (.int .u64 (lo x)) := by simp [go_sem, ↓IntWalk.iteOmega, *]
        have q2 : w3.cell? ⟨w.heap.size + 1, 0, none⟩ = some (.int .u64 (hi b)) := by simp [go_sem, ↓IntWalk.iteOmega, *]
        have q3 : w3.cell? ⟨w.heap.size + 1, 1, none⟩ = some (.int .u64 (lo b)) := by simp [go_sem, ↓IntWalk.iteOmega, *]
        have q4 : w3.cell? ⟨w.heap.size + 1 + 1, 0, none⟩ = some (.int .u64 (0)) := by simp [go_sem, ↓IntWalk.iteOmega, *]
        have q5 : w3.cell? ⟨w.heap.size + 1 + 1, 1, none⟩ = some (.int .u64 (0)) := by simp [go_sem, ↓IntWalk.iteOmega, *]
        have q6 : w3.cell? ⟨w.heap.size + 1 + 1 + 1, 0, none⟩ = some (.int .u64 (0)) := by simp [go_sem, ↓IntWalk.iteOmega, *]
        have q7 : w3.cell? ⟨w.heap.size + 1 + 1 + 1, 1, none⟩ = some (.int .u64 (0)) := by simp [go_sem, ↓IntWalk.iteOmega, *]
        have p0 : w3.frozen? ⟨w.heap.size, 0, none⟩ = false := by simp [go_sem, ↓IntWalk.iteOmega, *]
        have p1 : w3.frozen? ⟨w.heap.size, 1, none⟩ = false := by simp [go_sem, ↓IntWalk.iteOmega, *]
        have p2 : w3.frozen? ⟨w.heap.size + 1 + 1, 0, none⟩ = false := by simp [go_sem, ↓IntWalk.iteOmega, *]
        have p3 : w3.frozen? ⟨w.heap.size + 1 + 1, 1, none⟩ = false := by simp [go_sem, ↓IntWalk.iteOmega, *]
        have p4 : w3.frozen? ⟨w.heap.size + 1 + 1 + 1, 0, none⟩ = false := by simp [go_sem, ↓IntWalk.iteOmega, *]
        have p5 : w3.frozen? ⟨w.heap.size + 1 + 1 + 1, 1, none⟩ = false := by simp [go_sem, ↓IntWalk.iteOmega, *]
        have r0 : w3.cell? ⟨b3, 0, none⟩ = some (.int .u64 (hi (x - B))) := by simp [go_sem, *]
        have r1 : w3.cell? ⟨b3, 1, none⟩ = some (.int .u64 (lo (x - B))) := by simp [go_sem, *]
        have bel3 : Below w.heap.size w w3 := (by repeat (first | (with_reducible exact Below.refl _ _) | ((with_reducible refine Below.alloc ?_ ?_ _); rotate_left; (next => ((try dsimp only); (try simp only [World.size_alloc, World.size_setCell, World.size_drew]); omega))) | ((with_reducible refine Below.setCell ?_ ?_ _); rotate_left; (next => ((try dsimp only); (try simp only [World.size_alloc, World.size_setCell, World.size_drew]); omega))) | (with_reducible refine Below.drew ?_) | ((with_reducible refine Below.trans ?_ (Below.mono hb3 ?_)); rotate_left; (next => ((try dsimp only); (try simp only [World.size_alloc, World.size_setCell, World.size_drew]); omega))) | (with_reducible exact bel)))
        have sz3 : w.heap.size + 4 ≤ w3.heap.size := by omega
        have lt3 : w.heap.size + 4 ≤ b3 := by omega
        have orr : bits .or .u64 y (IntKind.u64.wrap (2 ^ m)) = y + 2 ^ m := by
          have hp := Go.Proofs.Ytlnagfmaiabhaaa.p2 m
          have e : IntKind.u64.wrap (2 ^ m) = 2 ^ m := by rw [Int.pow_succ] at hsum; have := uy.1; rw [IntKind.wrap_u64]; omega
          rw [e]; exact dv_or HD.out K63 hb.1 HA.out
        clear c3 f3 d3 e3 z3 k0 k1 g0 g1 k2 k3 k4 k5 g4 g5 k6 k7 g6 g7 sz bel hb3 qa qf
        have bel := bel3
        clear bel3
        go_region
        go_wp2_with fail
        go_roundw
        case rel =>
          refine ⟨m, (m : Int) - 1, x - B, y + 2 ^ m, HN, by omega, by omega, ?_, ?_, ?_, ?_, ?_, ?_, ?_, ?_, ?_, ?_, ?_, ?_, ?_, ?_, ?_, ?_, ?_, ?_⟩
          all_goals first | rfl | (simp [go_sem, ↓IntWalk.iteOmega, *]; done) | (simp only [World.size_setCell, World.size_drew]; omega) | exact (by repeat (first | (with_reducible exact Below.refl _ _) | ((with_reducible refine Below.alloc ?_ ?_ _); rotate_left; (next => ((try dsimp only); (try simp only [World.size_alloc, World.size_setCell, World.size_drew]); omega))) | ((with_reducible refine Below.setCell ?_ ?_ _); rotate_left; (next => ((try dsimp only); (try simp only [World.size_alloc, World.size_setCell, World.size_drew]); omega))) | (with_reducible refine Below.drew ?_) | (with_reducible exact bel)))
        case measure => simp [intOf] <;> omega
      · have hn := dvR_no HD.out (by rw [← HB2.out]; omega)
        have hsub : ∀ w, _ := fun w => sub_sign x B (Wd.mk UX.out) (Wd.mk UB.out) (by unfold U128; omega) w
        have HS := Lib.hid hsub
        have HN := Lib.hid hn
        clear hsub hn
        go_wp2_with fail
        refine wp_region_rest 8 (by kernel_rfl) (by kernel_rfl) ?_
        simp only [List.take_succ_cons, List.take_zero, List.drop_succ_cons, List.drop_zero]
        repeat (first | (refine wpMild_skip rfl ?_) | (refine wpMild_step rfl (fun K hK => ?_); apply Exists.intro; refine ⟨fun w2 h2 => ?_, ?_⟩; (next => (have h2' := Below.undrew h2; have g1 := Below.cells h2'; have g2 := Below.frozens h2'; (try simp only [World.size_alloc, World.size_setCell] at g1 g2); clear h2 h2'; unfold mildAt; first | (go_simp; simp only [mildUpon, true_and]; (first | (go_at_call 90; refine HUc.out _) | (go_at_call 16; refine HS.out _))) | (simp [mildUpon, go_sem, ↓IntWalk.iteOmega, *]; done) | (simp [mildUpon, go_sem, ↓IntWalk.iteOmega, *]; (try go_ints); rfl)))); (go_simp; refine hK _ ?_; clear hK K))
        refine wpMild_nil ?_
        refine rest_make _ _ rfl (makes_wd rfl rfl) (fun b3 _ => ?_)
        rw [oneBlock_of]
        go_simp
        refine rest_tail ?_ rfl rfl (fun w2 hw2 => ?_) ?_
        rotate_left
        next =>
          obtain ⟨d2, e2⟩ := block_cells hw2.one.2
          unfold tailAt
          simp [tailUpon, go_sem, ↓IntWalk.iteOmega, *]
          exact ((hw2).one_set 0 _).one_set 1 _
        repeat (first | (refine rest_nil ?_) | (refine rest_mild rfl (fun K hK => ?_); apply Exists.intro; refine ⟨fun w2 h2 => ?_, ?_⟩; (next => (unfold mildAt; first | (simp [mildUpon, go_sem]; done) | (simp [mildUpon, go_sem]; rfl))); (go_simp; refine hK _ ?_; clear hK K)))
        intro w3 st3
        have hb3 := Below.undrew st3.below
        obtain ⟨lo3, blk3⟩ := st3.one
        have up3 := st3.one_lt
        obtain ⟨d3, e3⟩ := block_cells blk3
        clear st3 blk3
        try simp only [World.size_alloc, World.size_setCell, World.size_drew] at lo3
        have z3 := hb3.size
        have c3 := Below.cells hb3
        have f3 := Below.frozens hb3
        try simp only [World.size_alloc, World.size_setCell, World.size_drew] at z3 c3 f3
        go_wp2_with fail
        go_roundw
        case rel =>
          refine ⟨m, (m : Int) - 1, x, y, HN, by omega, by omega, ?_, ?_, ?_, ?_, ?_, ?_, ?_, ?_, ?_, ?_, ?_, ?_, ?_, ?_, ?_, ?_, ?_, ?_⟩
          all_goals first | rfl | (simp [go_sem, ↓IntWalk.iteOmega, *]; done) | omega | (simp only [World.size_setCell, World.size_drew]; omega) | exact (by repeat (first | (with_reducible exact Below.refl _ _) | ((with_reducible refine Below.alloc ?_ ?_ _); rotate_left; (next => ((try dsimp only); (try simp only [World.size_alloc, World.size_setCell, World.size_drew]); omega))) | ((with_reducible refine Below.setCell ?_ ?_ _); rotate_left; (next => ((try dsimp only); (try simp only [World.size_alloc, World.size_setCell, World.size_drew]); omega))) | (with_reducible refine Below.drew ?_) | ((with_reducible refine Below.trans ?_ (Below.mono hb3 ?_)); rotate_left; (next => ((try dsimp only); (try simp only [World.size_alloc, World.size_setCell, World.size_drew]); omega))) | (with_reducible exact bel)))
        case measure => simp [intOf] <;> omega

/-- The quotient and what is left. -/
theorem div_ok (a b q r : Int) {ah al bh bl : Int} (ha : Wd a ah al) (hb : Wd b bh bl) (h0 : 0 < b) (hq : a / b = q) (hr : a % b = r) (w : World) :
    Calls Try.prog 66 #[.agg #[.int .u64 ah, .int .u64 al], .agg #[.int .u64 bh, .int .u64 bl]] w fun e w' =>
      e = .returned (.tuple #[.agg #[.int .u64 (hi q), .int .u64 (lo q)], .agg #[.int .u64 (hi r), .int .u64 (lo r)], .int .i64 0]) ∧ Below w.heap.size w w' := by
  have ha' := ha
  have hb' := hb
  obtain ⟨ua, rfl, rfl⟩ := ha
  obtain ⟨ub, rfl, rfl⟩ := hb
  by_cases c : a < b
  · have e1 : q = 0 := by rw [← hq]; exact Int.ediv_eq_zero_of_lt ua.1 c
    have e2 : r = a := by rw [← hr]; exact Int.emod_eq_of_lt ua.1 c
    subst e1 e2
    exact div_less r b ha' hb' c w
  · by_cases d : b < 18446744073709551616
    · have e1 : hi b = 0 := by unfold hi; omega
      have e2 : lo b = b := by unfold lo; omega
      have r1 := Int.emod_nonneg a (show b ≠ 0 by omega)
      have r2 := Int.emod_lt_of_pos a h0
      rw [hr] at r1 r2
      rw [e1, e2, show hi r = 0 by unfold hi; omega, show lo r = r by unfold lo; omega]
      exact div_low a b q r ua (by unfold U64; omega) h0 (by omega) hq hr w
    · have q0 : 0 ≤ q := by rw [← hq]; exact Int.ediv_nonneg ua.1 (by omega)
      have q1 : q < 18446744073709551616 := by
        rw [← hq]; refine Int.ediv_lt_of_lt_mul h0 ?_
        have : 18446744073709551616 * 18446744073709551616 ≤ b * 18446744073709551616 := Int.mul_le_mul_of_nonneg_right (by omega) (by omega)
        unfold U128 at ua; omega
      rw [show hi q = 0 by unfold hi; omega, show lo q = q by unfold lo; omega]
      exact div_bits a b q r ua ub (by omega) (by omega) hq hr w
theorem div_none (a : Int) {ah al : Int} (ha : Wd a ah al) (w : World) :
    Calls Try.prog 66 #[.agg #[.int .u64 ah, .int .u64 al], .agg #[.int .u64 0, .int .u64 0]] w fun e w' =>
      e = .returned (.tuple #[.agg #[.int .u64 0, .int .u64 0], .agg #[.int .u64 0, .int .u64 0], .int .i64 6]) ∧ Below w.heap.size w w' := by
  obtain ⟨ua, rfl, rfl⟩ := ha
  exact div_zero a w
end Go.Proofs.Ytlnagfmaiabhaaa

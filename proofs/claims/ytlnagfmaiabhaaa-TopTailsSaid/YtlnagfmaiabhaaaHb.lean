/-
  hist.Between.
-/
import Derived.Test.YtlnagfmaiabhaaaHi
import Derived.Test.YtlnagfmaiabhaaaP0
set_option linter.unusedSimpArgs false
set_option linter.unusedVariables false
namespace Go.Proofs.Ytlnagfmaiabhaaa
open Go.RowKit
theorem sumI_nonneg_take {l : List Int} {hi : Int} (hb : Btw 0 hi l) {i j : Nat} (hij : i ≤ j) (hj : j ≤ l.length) : sumI (l.take i) ≤ sumI (l.take j) := by
  induction j with
  | zero => obtain rfl : i = 0 := by omega
            exact Int.le_refl _
  | succ j ih =>
    rcases Nat.eq_or_lt_of_le hij with h | h
    · subst h; exact Int.le_refl _
    · have h1 := ih (by omega) (by omega)
      have h2 := sumI_snoc l (k := j) (by omega)
      have h3 := (hb.get (k := j) (by omega)).1
      omega

theorem pow25 {k : Nat} (h : k ≤ 25) : (1 : Int) ≤ 2 ^ k ∧ (2 : Int) ^ k ≤ 33554432 := by
  have h1 : 1 ≤ 2 ^ k := Nat.one_le_two_pow
  have h2 : 2 ^ k ≤ 2 ^ 25 := Nat.pow_le_pow_right (by omega) h
  have h3 : ((2 ^ k : Nat) : Int) = (2 : Int) ^ k := by simp
  rw [← h3]
  omega
theorem shl_one {k : Nat} (h : k ≤ 25) {y : Int} (hy : y = k) {T : Int} (hT : (2 : Int) ^ k = T) : Op.shift .shl .i64 1 .i64 y = pure (.int .i64 T) := by
  subst hy hT
  have := pow25 h
  rw [Go.shift_shl_any _ _ _ _ (by omega)]
  have e : min (k : Int).toNat IntKind.i64.bits = k := by
    have : IntKind.i64.bits = 64 := rfl
    rw [this]; omega
  rw [e, Int.one_mul, IntWalk.i64_in _ (by omega)]

set_option maxHeartbeats 8000000 in
set_option maxRecDepth 100000 in
theorem between_ok (l : List Int) (p q L S : Int) (K : Nat) (w : World) (hl : l.length = 26) (hb : Btw 0 1073741824 l) (hq : 1 ≤ q ∧ q ≤ 1000) (hp : 0 ≤ p ∧ p ≤ q) (hS : sumI l = S) (hS0 : 0 < S) (hS1 : S ≤ 30000000000)
    (hL : max 1 ((S * p + q - 1) / q) = L) (hK : K < 26) (h1 : sumI (l.take K) < L) (h2 : L ≤ sumI (l.take (K + 1))) (lo hi : Int)
    (hlo : if K = 0 then lo = 0 ∧ hi = 0 else lo = 2 ^ (K - 1) ∧ hi = min (2 ^ K - 1) 16777216) :
    Calls Try.prog 38 #[.agg (hv l), .int .i64 p, .int .i64 q] w fun e w' => e = .returned (.tuple #[.int .i64 lo, .int .i64 hi, .int .i64 0]) ∧ Below w.heap.size w w' := by
  obtain ⟨_, hi46⟩ := zero_of_info info46
  obtain ⟨_, hi48⟩ := zero_of_info info48
  have t46 := Try.underlying63
  have HT := Lib.hid Try.underlying65
  have HT46 := Lib.hid t46
  have HC := Lib.hid (fun w => hcheck_ok l w hl hb)
  have hsz : (hv l).size = 26 := by rw [hv_size, hl]
  have hget : ∀ k, k < 26 → (hv l)[k]? = some (.int .i64 (l.getD k 0)) := fun k hk => hv_get l (by omega)
  have hsn : ∀ k, k < 26 → sumI (l.take (k + 1)) = sumI (l.take k) + l.getD k 0 := fun k hk => sumI_snoc l (by omega)
  have hlk : ∀ k, k < 26 → 0 ≤ l.getD k 0 ∧ l.getD k 0 ≤ 1073741824 := fun k hk => hb.get (by omega)
  have hend : sumI (l.take 26) = S := by rw [List.take_of_length_le (by omega), hS]
  have hst : ∀ k, k ≤ 26 → 0 ≤ sumI (l.take k) ∧ sumI (l.take k) ≤ S := fun k hk => by
    have a := sumI_nonneg_take hb (Nat.zero_le k) (by omega)
    have b := sumI_nonneg_take hb hk (by omega)
    have z : sumI (l.take 0) = 0 := rfl
    rw [hend] at b
    exact ⟨by omega, b⟩
  have hmono : ∀ k, k ≤ K → sumI (l.take k) ≤ sumI (l.take K) := fun k hk => sumI_nonneg_take hb hk (by omega)
  obtain ⟨q1, q2⟩ := hq
  obtain ⟨p1, p2⟩ := hp
  have m1 : 0 ≤ S * p := Int.mul_nonneg (by omega) p1
  have m2 : S * p ≤ 30000000000 * 1000 := Int.mul_le_mul (by omega) (by omega) p1 (by omega)
  obtain ⟨M, hM⟩ : ∃ M, S * p = M := ⟨_, rfl⟩
  rw [hM] at m1 m2 hL
  have hMw : IntKind.i64.wrap (S * p) = M := by rw [hM]; exact IntWalk.i64_in _ (by omega)
  obtain ⟨D, hD⟩ : ∃ D, (M + q - 1) / q = D := ⟨_, rfl⟩
  rw [hD] at hL
  have d1 : 0 ≤ D := by rw [← hD]; exact Int.ediv_nonneg (by omega) (by omega)
  have d2 : D ≤ 30000000000 * 1000 + 1000 := by rw [← hD]; exact Int.le_trans (Int.ediv_le_self _ (by omega)) (by omega)
  have hD2 : (M + q - 1).tdiv q = D := by rw [Int.tdiv_eq_ediv_of_nonneg (by omega)]; exact hD
  have a1 : ¬ q < 1 := by omega
  have a2 : ¬ 1000 < q := by omega
  have a3 : ¬ p < 0 := by omega
  have a4 : ¬ q < p := by omega
  have s0 : ¬ S = 0 := by omega
  obtain ⟨c, hc⟩ : ∃ c, hv l = c := ⟨_, rfl⟩
  rw [hc] at HC hsz hget
  rw [hc]
  have HG := Lib.hid hget
  have HSn := Lib.hid hsn
  have HLk := Lib.hid hlk
  have HSt := Lib.hid hst
  have HMo := Lib.hid hmono
  have HEnd := Lib.hid hend
  have HLo := Lib.hid hlo
  have HK1 := Lib.hid h1
  have HK2 := Lib.hid h2
  have HI := Lib.hid (show Option.map (fun x => x.size) (Try.prog.info? 65) = some c.size by rw [hsz]; exact hi48)
  have HI46 := Lib.hid (show Option.map (fun x => x.size) (Try.prog.info? 63) = some c.size by rw [hsz]; exact hi46)
  have qa := alloc_cells
  have qf := alloc_frozens
  clear hi46 hi48 hget hsn hlk hst hmono hend hlo h1 h2 hc hb hl hS hM hD
  have hld := heap_alloc_last w (.cells c 65)
  have HL := Lib.hid hld
  have HB := Lib.hid ((Below.refl _ w).alloc (Nat.le_refl _) (.cells c 65))
  clear hld
  go_enter Try.func38, Try.ntmps38
  go_wp2_with (refine wpList_load_row rfl _ _ rfl w.heap.size rfl _ c (0, 0) _ HL.out HT.out rfl HI.out ?_)
  refine (HC.out _).mono ?_
  rintro e w1 ⟨rfl, hb1⟩
  have z1 := hb1.size
  simp only [World.size_alloc] at z1
  have H1 := Lib.hid ((hb1.block w.heap.size (by simp)).trans HL.out)
  have bel1 : Below w.heap.size w w1 := HB.out.trans (hb1.mono (by simp))
  clear hb1
  go_wp2_with (refine wpList_load_row rfl _ _ rfl w.heap.size rfl _ c (0, 0) _ H1.out HT46.out rfl HI46.out ?_)
  go_loop [10, 37] (fun v i => ∃ (k : Nat) (T : Int), k ≤ 26 ∧ i = .int .i64 k ∧ v = .int .i64 T ∧ sumI (l.take k) = T) (fun _ i => 26 - (intOf i).toNat)
  case atStart => exact ⟨0, 0, Nat.zero_le _, rfl, rfl, rfl⟩
  case round =>
    obtain ⟨k, T, hk, rfl, rfl, hT⟩ := hrel
    by_cases hlt : k < 26
    · have hx := HG.out k hlt
      have hbx := HLk.out k hlt
      have hs1 := HSn.out k hlt
      have hs2 := HSt.out k hk
      have hs3 := HSt.out (k + 1) (by omega)
      rw [hT] at hs1 hs2
      obtain ⟨x, hxv⟩ : ∃ x, l.getD k 0 = x := ⟨_, rfl⟩
      rw [hxv] at hx hbx hs1
      rw [hs1] at hs3
      have hix := run_index26 w1 c k x hlt hx
      have HS1 := Lib.hid hs1
      clear hxv hs1 hT
      go_wp2_with fail
      go_round
      case rel => exact ⟨k + 1, T + x, by omega, by go_num, rfl, HS1.out⟩
      case measure => simp [intOf]; omega
    · obtain rfl : k = 26 := by omega
      rw [HEnd.out] at hT
      subst hT
      go_wp2_with fail
      go_loop [13, 14] (fun v i => ∃ (k : Nat) (R : Int), k ≤ K ∧ i = .int .i64 k ∧ v = .int .i64 R ∧ L - sumI (l.take k) = R) (fun _ i => K - (intOf i).toNat)
      case atStart => exact ⟨0, L, Nat.zero_le _, rfl, by first | rfl | (rw [hL]) , by simp [sumI]⟩
      case round =>
        obtain ⟨k, R, hk, rfl, rfl, hR⟩ := hrel
        have hx := cell_of_row _ _ k _ _ _ H1.out
        rw [HG.out k (by omega)] at hx
        have hfz : w1.frozen? ⟨w.heap.size, k, none⟩ = false := by simp [World.frozen?, H1.out]
        have hbx := HLk.out k (by omega)
        have hs1 := HSn.out k (by omega)
        have hs2 := HSt.out k (by omega)
        have m1 := HMo.out k hk
        have k1 := HK1.out
        have k2 := HK2.out
        obtain ⟨x, hxv⟩ : ∃ x, l.getD k 0 = x := ⟨_, rfl⟩
        rw [hxv] at hx hbx hs1
        have k0 : (0 : Int) ≤ k := by omega
        have k26 : (k : Int) < 26 := by omega
        by_cases hlt : k < K
        · have m2 := HMo.out (k + 1) (by omega)
          have hgt : x < R := by omega
          have hr1 : R - x ≤ 40000000000000 := by omega
          have hr2 : 0 ≤ R - x := by omega
          have hnx : L - sumI (l.take (k + 1)) = R - x := by omega
          have HNx := Lib.hid hnx
          have hrb : R ≤ 40000000000000 := by omega
          clear hnx hs1 hs2 m1 m2 k1 k2 hR hxv
          go_wp2_with fail
          go_round
          case rel => exact ⟨k + 1, R - x, by omega, by go_num, rfl, HNx.out⟩
          case measure => simp [intOf]; omega
        · obtain rfl : K = k := by omega
          have hgt : ¬ x < R := by omega
          have HLo' := HLo.out
          clear hs1 hs2 m1 k1 k2 hR hxv
          by_cases hK0 : K = 0
          · rw [if_pos hK0] at HLo'
            obtain ⟨rfl, rfl⟩ := HLo'
            clear HK1 HK2 HLo HMo
            subst hK0
            have hK0' : ((0 : Nat) : Int) = 0 := rfl
            go_wp2_with fail
            refine bodyPost_ret (v := .tuple #[.int .i64 0, .int .i64 0, .int .i64 0]) (by simp [results, Try.f38, go_sem, ↓IntWalk.iteOmega, *]) rfl ?_
            exact ⟨rfl, bel1⟩
          · rw [if_neg hK0] at HLo'
            obtain ⟨hl1, hl2⟩ := HLo'
            have hK0' : ¬ (K : Int) = 0 := by omega
            have pw := pow25 (k := K) (by omega)
            obtain ⟨T, hT⟩ : ∃ T, (2 : Int) ^ K = T := ⟨_, rfl⟩
            rw [hT] at hl2 pw
            have hwk : IntKind.i64.wrap ((K : Int) - 1) = (K : Int) - 1 := IntWalk.i64_in _ (by omega)
            have pw1 := pow25 (k := K - 1) (by omega)
            have hv1 : IntKind.i64.wrap ((2 : Int) ^ (K - 1)) = lo := by rw [hl1]; exact IntWalk.i64_in _ (by omega)
            have hv2 : IntKind.i64.wrap ((2 : Int) ^ K) = T := by rw [hT]; exact IntWalk.i64_in _ (by omega)
            have hv3 : IntKind.i64.wrap (T - 1) = T - 1 := IntWalk.i64_in _ (by omega)
            have hmin := hl2.symm
            have kb : (1 : Int) ≤ K := by omega
            clear hl1 hl2 hT HLo HK1 HK2 HMo pw1
            go_wp2_with fail
            refine wp_region_quiet_all (Ext _) (by kernel_rfl) (by kernel_rfl) (Ext.drawn _) ?_
            repeat (first | go_big_quiet_skip | go_big_quiet_step (fail) | (refine BigFrame.wpQuiet_want rfl (fun K hK => ?_); apply Exists.intro; refine ⟨fun w2 h2 => ?_, ?_⟩; (next => (have g1 := Below.cells h2.below; have g2 := Below.frozens h2.below; (try simp only [World.size_alloc, World.size_setCell] at g1 g2); first | (go_simp; (fail)) | (simp [go_sem, ↓IntWalk.iteOmega, *]; done) | (simp [go_sem, ↓IntWalk.iteOmega, *]; rfl)))); (go_simp; refine hK _ ?_; clear hK K))
            refine wpQuiet_nil ?_
            intro w2 h2
            have hb2 := h2.below
            clear h2
            have z2 := hb2.size
            have c2 := Below.cells hb2
            have f2 := Below.frozens hb2
            try simp only [World.size_alloc, World.size_setCell, World.size_drew] at z2 c2 f2
            go_wp2_with fail
            refine bodyPost_ret (v := .tuple #[.int .i64 lo, .int .i64 hi, .int .i64 0]) (by simp [results, Try.f38, go_sem, ↓IntWalk.iteOmega, *]) rfl ?_
            exact ⟨rfl, bel1.trans (hb2.mono (by omega))⟩
end Go.Proofs.Ytlnagfmaiabhaaa

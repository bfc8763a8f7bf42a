/-
  The walk of bits.Div64 (Knuth's division of two words by one).
-/
import Derived.Test.YtlnagfmaiabhaaaKn
import Derived.Test.YtlnagfmaiabhaaaQT
import Derived.Test.YtlnagfmaiabhaaaWB
import Derived.Test.YtlnagfmaiabhaaaShelf
import Derived.RegionTactic
import Derived.Lib.Hide
import Derived.Lib.BitFns
set_option linter.unusedSimpArgs false
set_option linter.unusedVariables false
namespace Go.Proofs.Ytlnagfmaiabhaaa
open Go.RowKit

set_option maxRecDepth 100000 in
set_option maxHeartbeats 1000000 in
theorem div64_zero (l y q r : Int) (ul : U64 l) (uy : U64 y) (hy : 0 < y) (hq : l / y = q) (hr : l % y = r) (w : World) :
    Calls Try.prog 89 #[.int .u64 0, .int .u64 l, .int .u64 y] w fun e w' => e = .returned (.tuple #[.int .u64 q, .int .u64 r]) ∧ Below w.heap.size w w' := by
  have q1 : 0 ≤ l / y := Int.ediv_nonneg ul.1 (by omega)
  have q2 : l / y ≤ l := Int.ediv_le_self _ ul.1
  have q3 := Int.emod_nonneg l (show y ≠ 0 by omega)
  have q4 := Int.emod_lt_of_pos l hy
  unfold U64 at ul uy
  rw [hq] at q1 q2
  rw [hr] at q3 q4
  have e1 : l.tdiv y = q := by rw [Int.tdiv_eq_ediv_of_nonneg ul.1, hq]
  have e2 : l.tmod y = r := by rw [Int.tmod_eq_emod_of_nonneg ul.1, hr]
  have e3 : IntKind.u64.wrap q = q := by rw [IntKind.wrap_u64]; omega
  have e4 : IntKind.u64.wrap r = r := by rw [IntKind.wrap_u64]; omega
  have hne : (y == 0) = false := by simp; omega
  have hn1 : ¬ y = 0 := by omega
  have hn2 : ¬ y ≤ 0 := by omega
  go_enter Try.func89, Try.ntmps89
  go_wp2_with fail
  refine wp_region_quiet_all (Ext _) (by kernel_rfl) (by kernel_rfl) (Ext.drawn _) ?_
  repeat (first | go_big_quiet_skip | go_big_quiet_step (fail) | (refine BigFrame.wpQuiet_want rfl (fun K hK => ?_); apply Exists.intro; refine ⟨fun w2 h2 => ?_, ?_⟩; (next => (have g1 := Below.cells h2.below; have g2 := Below.frozens h2.below; (try simp only [World.size_alloc, World.size_setCell] at g1 g2); first | (go_simp; (fail)) | (simp [go_sem, ↓IntWalk.iteOmega, *]; done) | (simp [go_sem, ↓IntWalk.iteOmega, *]; rfl)))); (go_simp; refine hK _ ?_; clear hK K))
  refine wpQuiet_nil ?_
  intro w1 h1
  have hb1 := h1.below
  clear h1
  have z1 := hb1.size
  have c1 := Below.cells hb1
  have f1 := Below.frozens hb1
  try simp only [World.size_alloc, World.size_setCell, World.size_drew] at z1 c1 f1
  go_wp2_with fail
  go_ret2
  exact ⟨rfl, (by repeat (first | (with_reducible exact Below.refl _ _) | ((with_reducible refine Below.alloc ?_ ?_ _); rotate_left; (next => ((try dsimp only); (try simp only [World.size_alloc, World.size_setCell, World.size_drew]); omega))) | ((with_reducible refine Below.setCell ?_ ?_ _); rotate_left; (next => ((try dsimp only); (try simp only [World.size_alloc, World.size_setCell, World.size_drew]); omega))) | (with_reducible refine Below.drew ?_) | ((with_reducible refine Below.trans ?_ (Below.mono hb1 ?_)); rotate_left; (next => ((try dsimp only); (try simp only [World.size_alloc, World.size_setCell, World.size_drew]); omega)))))⟩

/-- The walk, all its numbers named. -/
theorem div64_run (h l y q r S Y y1 y0 u z d1 d0 a v b p : Int) (uh : 0 < h) (hy : h < y) (uy : y < 18446744073709551616) (ul : 0 ≤ l ∧ l < 18446744073709551616)
    (hS : 64 - (Lib.bitLen y.toNat : Int) = S) (Sb : 0 ≤ S ∧ S ≤ 63)
    (hY : IntKind.u64.wrap (y * 2 ^ S.toNat) = Y) (hy1 : Y / 4294967296 = y1) (ha0 : bits .and .u64 Y 4294967295 = y0)
    (hu : bits .or .u64 (IntKind.u64.wrap (h * 2 ^ S.toNat)) (l / 2 ^ (64 - S).toNat) = u)
    (hz : IntKind.u64.wrap (l * 2 ^ S.toNat) = z) (hd1 : z / 4294967296 = d1) (ha1 : bits .and .u64 z 4294967295 = d0)
    (hYY : y1 * 4294967296 + y0 = Y) (b1 : 2147483648 ≤ y1 ∧ y1 < 4294967296) (b0 : 0 ≤ y0 ∧ y0 < 4294967296) (ub : 0 ≤ u ∧ u < Y) (db1 : 0 ≤ d1 ∧ d1 < 4294967296) (db0 : 0 ≤ d0 ∧ d0 < 4294967296)
    (hzz : 0 ≤ z ∧ z < 18446744073709551616)
    (ha : (u * 4294967296 + d1) / Y = a) (hv : u * 4294967296 + d1 - a * Y = v) (hb : (v * 4294967296 + d0) / Y = b) (hp : v * 4294967296 + d0 - b * Y = p)
    (hq : a * 4294967296 + b = q) (hr : p / 2 ^ S.toNat = r) (w : World) :
    Calls Try.prog 89 #[.int .u64 h, .int .u64 l, .int .u64 y] w fun e w' => e = .returned (.tuple #[.int .u64 q, .int .u64 r]) ∧ w = w' := by
  have Yb : Y < 18446744073709551616 := by omega
  obtain ⟨ab0, ab1, ab2, ab3⟩ := kn_digit hYY b1.1 b0.1 ub db1 ha
  have vb : 0 ≤ v ∧ v < Y := by omega
  obtain ⟨bb0, bb1, bb2, bb3⟩ := kn_digit hYY b1.1 b0.1 vb db0 hb
  have pb : 0 ≤ p ∧ p < Y := by omega
  obtain ⟨s1, s2⟩ := kn_start hYY b1 b0 ub db1 ha
  obtain ⟨t1, t2⟩ := kn_start hYY b1 b0 vb db0 hb
  obtain ⟨g, hg⟩ : ∃ g, u / y1 = g := ⟨_, rfl⟩
  obtain ⟨k, hk⟩ : ∃ k, v / y1 = k := ⟨_, rfl⟩
  rw [hg] at s1 s2
  rw [hk] at t1 t2
  have gb : 0 ≤ g ∧ g ≤ 4294967297 ∧ 0 ≤ g * y1 ∧ g * y1 ≤ u := by obtain ⟨_, _, c1, c2, c3, c4⟩ := s1; exact ⟨c3, c4, Int.mul_nonneg c3 (by omega), by omega⟩
  have kb : 0 ≤ k ∧ k ≤ 4294967297 ∧ 0 ≤ k * y1 ∧ k * y1 ≤ v := by obtain ⟨_, _, c1, c2, c3, c4⟩ := t1; exact ⟨c3, c4, Int.mul_nonneg c3 (by omega), by omega⟩
  have ev : IntKind.u64.wrap (IntKind.u64.wrap (IntKind.u64.wrap (u * 4294967296) + d1) - IntKind.u64.wrap (a * Y)) = v := by
    simp only [IntKind.wrap_u64]; omega
  have ep : IntKind.u64.wrap (IntKind.u64.wrap (IntKind.u64.wrap (v * 4294967296) + d0) - IntKind.u64.wrap (b * Y)) = p := by
    simp only [IntKind.wrap_u64]; omega
  have M1 := Lib.hid (fun q r => kn_more (q := q) (r := r) hYY b1.1 b0.1 ub db1 ha)
  have M2 := Lib.hid (fun q r => kn_more (q := q) (r := r) hYY b1.1 b0.1 vb db0 hb)
  have X1 := Lib.hid (fun q r => kn_exit (q := q) (r := r) hYY b1.1 b0.1 ub db1 ha)
  have X2 := Lib.hid (fun q r => kn_exit (q := q) (r := r) hYY b1.1 b0.1 vb db0 hb)
  have B1 := Lib.hid (fun q r => kn_break (q := q) (r := r) hYY b1.1 b0 ub db1 ha)
  have B2 := Lib.hid (fun q r => kn_break (q := q) (r := r) hYY b1.1 b0 vb db0 hb)
  have HS := Lib.hid hS
  have S1 := Lib.hid s1
  have T1 := Lib.hid t1
  have hne : (y == 0) = false := by simp; omega
  have hn1 : ¬ y = 0 := by omega
  have hn2 : ¬ y ≤ h := by omega
  have hn3 : ¬ h = 0 := by omega
  have EV := Lib.hid ev
  have EP := Lib.hid ep
  have HK := Lib.hid hk
  have HQ := Lib.hid hq
  have HR := Lib.hid hr
  clear hS ha hv hb hp hYY s1 t1 ev ep hk ab2 ab3 bb2 bb3 hq hr
  go_enter Try.func89, Try.ntmps89
  go_wp2_with fail
  refine (Try.bits_LeadingZeros64 _ _ (by omega) (by omega)).mono ?_
  rintro e w' ⟨rfl, rfl⟩
  rw [HS.out]
  go_wp2_with fail
  go_loop [15, 16] (fun q r => ∃ qh rh : Int, q = .int .u64 qh ∧ r = .int .u64 rh ∧ KnR u y1 a qh rh ∧ rh < 4294967296) (fun q _ => (intOf q).toNat)
  case atStart => rw [hg]; exact ⟨_, _, rfl, rfl, S1.out, s2⟩
  case round =>
    obtain ⟨qh, rh, rfl, rfl, hR, hlt⟩ := hrel
    have mr := M1.out qh rh hR
    have xr := X1.out qh rh hR
    have br := B1.out (qh - 1) (rh + y1)
    obtain ⟨c0, c1, c2, c3, c4, c5⟩ := hR
    have p1 := mul_bd (a := qh) (b := y0) (A := 4294967297) (B := 4294967295) (by omega) (by omega)
    have MR := Lib.hid mr
    have XR := Lib.hid xr
    have BR := Lib.hid br
    clear mr xr br
    have cs : (4294967296 ≤ qh ∨ (¬ 4294967296 ≤ qh ∧ 4294967296 * rh + d1 < qh * y0)) ∨ (¬ 4294967296 ≤ qh ∧ ¬ 4294967296 * rh + d1 < qh * y0) := by omega
    rcases cs with cs | ⟨n1, n2⟩
    · have nx := MR.out (by omega)
      have q1 : 1 ≤ qh := by obtain ⟨e1, e2, _⟩ := nx; omega
      by_cases bk : 4294967296 ≤ rh + y1
      · have e := BR.out nx (by omega) bk
        have Nx := Lib.hid nx
        have EE := Lib.hid e
        clear nx e
        have e := EE.out
        have ev := EV.out
        have hk := HK.out
        rcases cs with n1 | ⟨n1, n2⟩
        all_goals
          go_wp2_with fail
          go_loop [18, 16] (fun q r => ∃ ql rl : Int, q = .int .u64 ql ∧ r = .int .u64 rl ∧ KnR v y1 b ql rl ∧ rl < 4294967296) (fun q _ => (intOf q).toNat)
          case atStart => exact ⟨_, _, rfl, rfl, T1.out, t2⟩
          case round =>
            obtain ⟨ql, rl, rfl, rfl, hL, hltl⟩ := hrel
            have mr := M2.out ql rl hL
            have xr := X2.out ql rl hL
            have br := B2.out (ql - 1) (rl + y1)
            obtain ⟨f0, f1, f2, f3, f4, f5⟩ := hL
            have p2 := mul_bd (a := ql) (b := y0) (A := 4294967297) (B := 4294967295) (by omega) (by omega)
            have MR2 := Lib.hid mr
            have XR2 := Lib.hid xr
            have BR2 := Lib.hid br
            clear mr xr br
            have cs2 : (4294967296 ≤ ql ∨ (¬ 4294967296 ≤ ql ∧ 4294967296 * rl + d0 < ql * y0)) ∨ (¬ 4294967296 ≤ ql ∧ ¬ 4294967296 * rl + d0 < ql * y0) := by omega
            rcases cs2 with cs2 | ⟨m1, m2⟩
            · have nx := MR2.out (by omega)
              have q1 : 1 ≤ ql := by obtain ⟨e1, e2, _⟩ := nx; omega
              by_cases bk2 : 4294967296 ≤ rl + y1
              · have e := BR2.out nx (by omega) bk2
                clear nx
                have ep := EP.out
                have hr := HR.out
                have hq := HQ.out
                rcases cs2 with m1 | ⟨m1, m2⟩
                all_goals
                  go_wp2_with fail
                  go_ret2
                  exact ⟨rfl, rfl⟩
              · have Nx := Lib.hid nx
                clear nx
                rcases cs2 with m1 | ⟨m1, m2⟩
                all_goals
                  go_wp2_with fail
                  go_round
                  case rel => exact ⟨_, _, rfl, rfl, Nx.out, by omega⟩
                  case measure => simp [intOf]; omega
            · have e := XR2.out (by omega)
              subst e
              have ep := EP.out
              have hr := HR.out
              have hq := HQ.out
              go_wp2_with fail
              go_ret2
              exact ⟨rfl, rfl⟩
      · have Nx := Lib.hid nx
        clear nx
        rcases cs with n1 | ⟨n1, n2⟩
        all_goals
          go_wp2_with fail
          go_round
          case rel => exact ⟨_, _, rfl, rfl, Nx.out, by omega⟩
          case measure => simp [intOf]; omega
    · have e := XR.out (by omega)
      subst e
      have ev := EV.out
      have hk := HK.out
      go_wp2_with fail
      go_loop [18, 16] (fun q r => ∃ ql rl : Int, q = .int .u64 ql ∧ r = .int .u64 rl ∧ KnR v y1 b ql rl ∧ rl < 4294967296) (fun q _ => (intOf q).toNat)
      case atStart => exact ⟨_, _, rfl, rfl, T1.out, t2⟩
      case round =>
        obtain ⟨ql, rl, rfl, rfl, hL, hltl⟩ := hrel
        have mr := M2.out ql rl hL
        have xr := X2.out ql rl hL
        have br := B2.out (ql - 1) (rl + y1)
        obtain ⟨f0, f1, f2, f3, f4, f5⟩ := hL
        have p2 := mul_bd (a := ql) (b := y0) (A := 4294967297) (B := 4294967295) (by omega) (by omega)
        have MR2 := Lib.hid mr
        have XR2 := Lib.hid xr
        have BR2 := Lib.hid br
        clear mr xr br
        have cs2 : (4294967296 ≤ ql ∨ (¬ 4294967296 ≤ ql ∧ 4294967296 * rl + d0 < ql * y0)) ∨ (¬ 4294967296 ≤ ql ∧ ¬ 4294967296 * rl + d0 < ql * y0) := by omega
        rcases cs2 with cs2 | ⟨m1, m2⟩
        · have nx := MR2.out (by omega)
          have q1 : 1 ≤ ql := by obtain ⟨e1, e2, _⟩ := nx; omega
          by_cases bk2 : 4294967296 ≤ rl + y1
          · have e := BR2.out nx (by omega) bk2
            clear nx
            have ep := EP.out
            have hr := HR.out
            have hq := HQ.out
            rcases cs2 with m1 | ⟨m1, m2⟩
            all_goals
              go_wp2_with fail
              go_ret2
              exact ⟨rfl, rfl⟩
          · have Nx := Lib.hid nx
            clear nx
            rcases cs2 with m1 | ⟨m1, m2⟩
            all_goals
              go_wp2_with fail
              go_round
              case rel => exact ⟨_, _, rfl, rfl, Nx.out, by omega⟩
              case measure => simp [intOf]; omega
        · have e := XR2.out (by omega)
          subst e
          have ep := EP.out
          have hr := HR.out
          have hq := HQ.out
          go_wp2_with fail
          go_ret2
          exact ⟨rfl, rfl⟩

theorem u64_low {x : Int} (h : U64 x) : bits .and .u64 x 4294967295 = x % 4294967296 := by
  obtain ⟨X, rfl⟩ := Int.eq_ofNat_of_zero_le h.1
  have hx : X < 18446744073709551616 := by unfold U64 at h; omega
  have := u64_and_nat X 4294967295 hx (by omega)
  rw [show ((4294967295 : Nat) : Int) = 4294967295 from rfl] at this
  rw [this, show (4294967295 : Nat) = 2 ^ 32 - 1 from rfl, Nat.and_two_pow_sub_one_eq_mod]
  omega

/-- bits.Div64, where the quotient fits. -/
theorem div64_ok (h l y q r : Int) (uh : U64 h) (ul : U64 l) (uy : U64 y) (hy : h < y) (hq : (h * 18446744073709551616 + l) / y = q) (hr : (h * 18446744073709551616 + l) % y = r) (w : World) :
    Calls Try.prog 89 #[.int .u64 h, .int .u64 l, .int .u64 y] w fun e w' => e = .returned (.tuple #[.int .u64 q, .int .u64 r]) ∧ Below w.heap.size w w' := by
  rcases (by unfold U64 at uh; omega : h = 0 ∨ 0 < h) with rfl | h0
  · rw [show (0 : Int) * 18446744073709551616 + l = l by omega] at hq hr
    exact div64_zero l y q r ul uy (by omega) hq hr w
  · obtain ⟨k, ek, lk, uk⟩ := bitLen_bounds y.toNat (by unfold U64 at uy; omega) (by unfold U64 at uh; omega)
    have hk : k ≤ 63 := by
      rcases Nat.lt_or_ge 63 k with c | c
      · have : 2 ^ 64 ≤ 2 ^ k := Nat.pow_le_pow_right (by omega) (by omega)
        unfold U64 at uy; omega
      · exact c
    obtain ⟨S, hS⟩ : ∃ S : Int, 64 - (Lib.bitLen y.toNat : Int) = S := ⟨_, rfl⟩
    have hSn : S.toNat = 63 - k := by omega
    have Sb : 0 ≤ S ∧ S ≤ 63 := by omega
    have p := p2 S.toNat
    have hN : U128 (h * 18446744073709551616 + l) := by unfold U64 U128 at *; omega
    have Yl : 9223372036854775808 ≤ y * 2 ^ S.toNat ∧ y * 2 ^ S.toNat < 18446744073709551616 := by
      have l1 : (2 : Int) ^ k ≤ y := by rw [← pow_cast]; unfold U64 at uy; omega
      have u1 : y < (2 : Int) ^ (k + 1) := by rw [← pow_cast]; unfold U64 at uy; omega
      have e1 : (2 : Int) ^ k * 2 ^ S.toNat = 9223372036854775808 := by rw [← Int.pow_add, hSn, show k + (63 - k) = 63 by omega]; rfl
      have e2 : (2 : Int) ^ (k + 1) * 2 ^ S.toNat = 18446744073709551616 := by rw [← Int.pow_add, hSn, show k + 1 + (63 - k) = 64 by omega]; rfl
      have a1 := Int.mul_le_mul_of_nonneg_right l1 (Int.le_of_lt p)
      have a2 := Int.mul_lt_mul_of_pos_right u1 p
      omega
    obtain ⟨Y, eY⟩ : ∃ Y, y * 2 ^ S.toNat = Y := ⟨_, rfl⟩
    rw [eY] at Yl
    have uY : U64 Y := by unfold U64; omega
    have NY : (h * 18446744073709551616 + l) * 2 ^ S.toNat < Y * 18446744073709551616 := by
      have : h * 18446744073709551616 + l < y * 18446744073709551616 := by unfold U64 at ul; omega
      have := Int.mul_lt_mul_of_pos_right this p
      rw [show y * 18446744073709551616 * 2 ^ S.toNat = y * 2 ^ S.toNat * 18446744073709551616 by grind, eY] at this
      exact this
    have N0 : 0 ≤ (h * 18446744073709551616 + l) * 2 ^ S.toNat := Int.mul_nonneg hN.1 (Int.le_of_lt p)
    obtain ⟨M, eM⟩ : ∃ M, (h * 18446744073709551616 + l) * 2 ^ S.toNat = M := ⟨_, rfl⟩
    have uM : U128 M := by rw [eM] at NY N0; unfold U128; omega
    obtain ⟨g1, g2⟩ := up_small_halves (a := h * 18446744073709551616 + l) (n := S) hN Sb.1 (by omega)
    have hhi : hi (h * 18446744073709551616 + l) = h := by unfold hi U64 at *; omega
    have hlo : lo (h * 18446744073709551616 + l) = l := by unfold lo U64 at *; omega
    have hup : up (h * 18446744073709551616 + l) S = M := by rw [up_fits (by rw [eM]; exact uM), eM]
    rw [hhi, hlo, hup] at g1
    rw [hlo, hup] at g2
    rw [eM] at NY N0
    obtain ⟨a, ea⟩ : ∃ a, (hi M * 4294967296 + lo M / 4294967296) / Y = a := ⟨_, rfl⟩
    obtain ⟨v, ev⟩ : ∃ v, hi M * 4294967296 + lo M / 4294967296 - a * Y = v := ⟨_, rfl⟩
    obtain ⟨b, eb⟩ : ∃ b, (v * 4294967296 + lo M % 4294967296) / Y = b := ⟨_, rfl⟩
    obtain ⟨p', ep⟩ : ∃ p', v * 4294967296 + lo M % 4294967296 - b * Y = p' := ⟨_, rfl⟩
    have eMM : M = hi M * 18446744073709551616 + lo M / 4294967296 * 4294967296 + lo M % 4294967296 := by unfold hi lo; omega
    obtain ⟨t1, t2⟩ := kn_two (y := Y) (by omega) eMM ea ev eb
    obtain ⟨s1, s2⟩ := kn_scale (N := h * 18446744073709551616 + l) (y := y) p
    rw [eM, eY, t1] at s1
    rw [eM, eY, t2, ep] at s2
    have lM := lo_u64 M
    have hM : 0 ≤ hi M ∧ hi M < Y := by unfold hi; omega
    unfold U64 at lM uh ul uy
    refine (div64_run h l y q r S Y (Y / 4294967296) (Y % 4294967296) (hi M) (lo M) (lo M / 4294967296) (lo M % 4294967296) a v b p' h0 hy (by omega) (by omega) hS Sb ?_ rfl (u64_low uY) g1 g2 rfl (u64_low (lo_u64 M)) (by omega) (by omega) (by omega) hM (by omega) (by omega) lM ea ev eb ep (by rw [← hq, s1]) (by rw [← hr, s2]) w).mono ?_
    · rw [eY, IntKind.wrap_u64]; omega
    · rintro e w' ⟨he, rfl⟩
      exact ⟨he, Below.refl _ _⟩
end Go.Proofs.Ytlnagfmaiabhaaa

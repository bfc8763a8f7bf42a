import Derived.Test.YtlnagfmaiabhaaaDq
import Derived.Test.YtlnagfmaiabhaaaSu
import Derived.Test.YtlnagfmaiabhaaaVal
import Derived.Test.YtlnagfmaiabhaaaMm
import Derived.Test.YtlnagfmaiabhaaaRoot
import Derived.Test.YtlnagfmaiabhaaaLstatbounds
set_option linter.unusedSimpArgs false
set_option linter.unusedVariables false
namespace Go.Proofs.Ytlnagfmaiabhaaa
open Go Go.RowKit
set_option maxHeartbeats 4000000 in
theorem tbegun_ok (w : World) :
    Calls Try.prog 20 #[] w fun e w' => e = .returned (.bool true) ∧ Below w.heap.size w w' := by
  have HA := Lib.hid (fun w => add_ok 2 3 5 (Wd.lit (l := 2) (by unfold U64; omega)) (Wd.lit (l := 3) (by unfold U64; omega)) rfl (by unfold U128; omega) w)
  have e1 : hi 5 = 0 := by decide
  have e2 : lo 5 = 5 := by decide
  have qa := alloc_cells
  have qf := alloc_frozens
  go_enter Try.func20, Try.ntmps20
  go_wp2_with fail
  refine (HA.out _).mono ?_
  rintro e w1 ⟨rfl, hb1⟩
  have z1 := hb1.size
  have c1 := Below.cells hb1
  have f1 := Below.frozens hb1
  try simp only [World.size_alloc, World.size_setCell, World.size_drew] at z1 c1 f1
  go_wp2_with fail
  go_ret
  exact ⟨rfl, (by repeat (first | (with_reducible exact Below.refl _ _) | ((with_reducible refine Below.alloc ?_ ?_ _); rotate_left; (next => ((try dsimp only); (try simp only [World.size_alloc, World.size_setCell, World.size_drew]); omega))) | ((with_reducible refine Below.setCell ?_ ?_ _); rotate_left; (next => ((try dsimp only); (try simp only [World.size_alloc, World.size_setCell, World.size_drew]); omega))) | (with_reducible refine Below.drew ?_) | ((with_reducible refine Below.trans ?_ (Below.mono hb1 ?_)); rotate_left; (next => ((try dsimp only); (try simp only [World.size_alloc, World.size_setCell, World.size_drew]); omega)))))⟩

set_option maxRecDepth 100000 in
set_option maxHeartbeats 16000000 in
theorem topRoot_walk (a : Option Addr) (len cap : Nat) (l : List Int) (w : World) (hin : InRow w a len cap l) :
    Calls Try.prog 4 #[.slice a len cap] w fun e w' =>
      e = .returned (.bool true) ∧ Below w.heap.size w w' := by
  obtain ⟨ys, n, S, Q, X, hy, hn, hm, hb, hS, hQ, hX, hsp, ok⟩ := stat_pack l
  obtain ⟨hr, hc, hmx, hnil⟩ := hin
  unfold maxLen at hmx
  have hll := hr.len
  have hvl := vals_len l
  rw [hy, hn, hll] at hvl
  have hmin : min (len : Int) 64 = (n : Int) := by omega
  have hnl : n ≤ len := by omega
  have nl' : (n : Int) ≤ len := by omega
  have nc' : (n : Int) ≤ cap := by omega
  have HG := Lib.hid (show ∀ k, k < n → ys.getD k 0 = within (l.getD k 0) 16777217 from fun k hk => by rw [← hy]; exact vals_get (by rw [hy, hn]; exact hk))
  have HL := Lib.hid hn
  have HR0 := Lib.hid hr
  have HT0 := Lib.hid (fun w => tbegun_ok w)
  have qa := alloc_cells
  have qf := alloc_frozens
  obtain ⟨i0, hi, hz0, hz1, hz2⟩ := info_parts info_int
  rcases Nat.eq_zero_or_pos n with h0 | h0
  · have n0 : ((n : Int) == 0) = true := by simp; omega
    clear hr hll hvl hn hy hb hsp ok hS hQ hX h0
    go_enter Try.func4, Try.ntmps4
    go_wp2_with fail
    refine (HT0.out _).mono ?_
    rintro e w1 ⟨rfl, hb1⟩
    have z1 := hb1.size
    have c1 := Below.cells hb1
    have f1 := Below.frozens hb1
    try simp only [World.size_alloc, World.size_setCell, World.size_drew] at z1 c1 f1
    go_wp2_with fail
    have HB := Lib.hid (show ∀ k, k < n → ∃ b off, a = some ⟨b, off, none⟩ ∧ b < w1.heap.size ∧ w1.cell? ⟨b, off + k, none⟩ = some (.int .i64 (l.getD k 0)) from fun k hk => (HR0.out.below hb1).each k (by omega))
    have bel1 : Below w.heap.size w w1 := (by repeat (first | (with_reducible exact Below.refl _ _) | ((with_reducible refine Below.alloc ?_ ?_ _); rotate_left; (next => ((try dsimp only); (try simp only [World.size_alloc, World.size_setCell, World.size_drew]); omega))) | ((with_reducible refine Below.setCell ?_ ?_ _); rotate_left; (next => ((try dsimp only); (try simp only [World.size_alloc, World.size_setCell, World.size_drew]); omega))) | (with_reducible refine Below.drew ?_) | ((with_reducible refine Below.trans ?_ (Below.mono hb1 ?_)); rotate_left; (next => ((try dsimp only); (try simp only [World.size_alloc, World.size_setCell, World.size_drew]); omega)))))
    clear c1 f1 qa qf
    go_loopw [3, 24] (fun v i wr => ∃ k : Nat, k ≤ n ∧ i = .int .i64 k ∧ wr.ownsRow w1.heap.size 3 1 v k ((List.take k ys).map (Value.int .i64)) ∧ Below w1.heap.size w1 wr) (fun _ i _ => n - (intOf i).toNat)
    case atStart => exact ⟨0, Nat.zero_le _, rfl, World.ownsRow_nil _ _ _ _, Below.refl _ _⟩
    case round =>
      obtain ⟨k, hk, rfl, hown, bel⟩ := hrel
      have hsz := bel.size
      by_cases hlt : k < n
      · obtain ⟨bkx, offx, hAx, ltx, hrx⟩ := HB.out k hlt
        subst hAx
        replace hrx := (bel.cell (p := ⟨bkx, offx + k, none⟩) ltx).trans hrx
        obtain ⟨x, hvx, hxx⟩ := name_num hrx
        have HX := Lib.hid hvx
        clear hvx hrx
        obtain ⟨y, hyv⟩ : ∃ y, y = within x 16777217 := ⟨_, rfl⟩
        have HY := Lib.hid hyv
        have htk : List.take (k + 1) ys = List.take k ys ++ [y] := by rw [take_snoc _ (by have := HL.out; omega), HG.out k (by omega), ← HX.out, ← HY.out]
        have HT := Lib.hid htk
        clear hyv htk
        go_wp2_with fail
        refine (within_any x 16777217 y _ (by omega) (by omega) HY.out.symm).mono ?_
        rintro e w' ⟨rfl, rfl⟩
        go_wp2_with (at_builtin; (refine wpList_append_own _ rfl _ _ 32 rfl (w1.heap.size) 3 i0 (.int .i64 0) 1 8 Try.underlying32 hi hz0 hz1 hz2 rfl (by decide) _ _ _ rfl (World.ownsRow.alloc hown _) ⟨wr.heap.size, 0, none⟩ 1 1 [.int .i64 (y)] rfl rfl (app1_cells _ _ _) (app1_one _ _) (by unfold maxLen; omega) (by omega) (by simp; omega) ?_))
        intro vq wq ownq grq _
        have own2 : wq.ownsRow w1.heap.size 3 1 vq (k + 1) ((List.take (k + 1) ys).map (Value.int .i64)) := by rw [HT.out]; simpa [List.map_append, List.map_take] using ownq
        have bel2 := (bel.alloc hsz _).grown grq (by simp; omega) (fun g hg => (hown.lt g hg).1)
        have HO := Lib.hid own2
        clear ownq grq hown own2 hxx bel
        go_wp2_with fail
        go_roundw
        case rel => first | exact ⟨k + 1, by omega, by go_num, HO.out, bel2⟩ | ((repeat apply Exists.intro); exact ⟨⟨k + 1, by omega, by go_num, HO.out, bel2⟩, rfl⟩)
        case measure => simp [intOf]; omega
      · obtain rfl : n = k := by omega
        rw [List.take_of_length_le (by have := HL.out; omega)] at hown
        obtain ⟨w5, rfl⟩ : ∃ z : World, z = wr := ⟨_, rfl⟩
        obtain ⟨A5, c5, rfl, p5, q5, n5⟩ := own_form hown
        have R5 := Lib.hid (Row.of_own hown)
        have o5 := Lib.hid hown
        have hb5 := bel
        have z5 := hsz
        clear hown bel hsz hlt hk
        go_wp2_with fail
        go_ret
        exact ⟨rfl, (by repeat (first | (with_reducible exact Below.refl _ _) | ((with_reducible refine Below.alloc ?_ ?_ _); rotate_left; (next => ((try dsimp only); (try simp only [World.size_alloc, World.size_setCell, World.size_drew]); omega))) | ((with_reducible refine Below.setCell ?_ ?_ _); rotate_left; (next => ((try dsimp only); (try simp only [World.size_alloc, World.size_setCell, World.size_drew]); omega))) | (with_reducible refine Below.drew ?_) | ((with_reducible refine Below.trans ?_ (Below.mono hb5 ?_)); rotate_left; (next => ((try dsimp only); (try simp only [World.size_alloc, World.size_setCell, World.size_drew]); omega))) | ((with_reducible refine Below.trans ?_ (Below.mono hb1 ?_)); rotate_left; (next => ((try dsimp only); (try simp only [World.size_alloc, World.size_setCell, World.size_drew]); omega)))))⟩
  · have n0 : ((n : Int) == 0) = false := by simp; omega
    obtain ⟨lo', hlo⟩ := IsMin.ex (l := ys) (by omega)
    obtain ⟨hi', hhi⟩ := IsMax.ex (l := ys) (by omega)
    have hbt : Btw lo' hi' ys := fun x hx => ⟨hlo.2 x hx, hhi.2 x hx⟩
    have lob := hb lo' hlo.1
    have hib := hb hi' hhi.1
    have hlh := hlo.2 hi' hhi.1
    have hpop := popoviciu hbt
    rw [hn, hsp] at hpop
    have okb := ok.bd
    have x0 : 0 ≤ X := by rw [← hsp]; exact spr_nonneg ys
    have x1 : X ≤ 1152921504606846976 := by omega
    obtain ⟨r, hrt⟩ := isRoot_ex X x0
    obtain ⟨F, hF⟩ : ∃ F, hi' - lo' = F := ⟨_, rfl⟩
    rw [hF] at hpop
    have r0 : 0 ≤ r := hrt.1
    have r1 : r * r ≤ X := hrt.2.1
    have r2 : r ≤ 1073741824 := sq_le_of (by omega) (by omega)
    obtain ⟨G, hG⟩ : ∃ G, F * (n : Int) = G := ⟨_, rfl⟩
    have g0 : 0 ≤ G := by rw [← hG]; exact Int.mul_nonneg (by omega) (by omega)
    have g1 : G ≤ 16777216 * 64 := by rw [← hG]; exact Int.mul_le_mul (by omega) (by omega) (by omega) (by omega)
    have r3 : 2 * r ≤ G := sq_le_of g0 (by
      have e1 : (2 * r) * (2 * r) = 4 * (r * r) := by rw [Int.mul_assoc, Int.mul_left_comm r 2 r]; omega
      have e2 : G * G = n * n * F * F := by rw [← hG]; ac_rfl
      omega)
    obtain ⟨P, hP⟩ : ∃ P, X * X = P := ⟨_, rfl⟩
    have hPU : U128 P := by
      have : X * X ≤ 1152921504606846976 * 1152921504606846976 := Int.mul_le_mul x1 x1 x0 (by omega)
      have := Int.mul_nonneg x0 x0
      unfold U128; omega
    obtain ⟨N, hN⟩ := Int.eq_ofNat_of_zero_le hPU.nonneg
    have hXU : U64 X := by unfold U64; omega
    have k1 : ∀ w, _ := fun w => root_ok X r (Wd.lit hXU) hrt w
    have k2 : ∀ w, _ := fun w => times_ok X X P (Wd.lit hXU) (Wd.lit hXU) hP hPU w
    have k3 : ∀ w, _ := fun w => text_ok N (h := Proofs.Ytlnagfmaiabhaaa.hi P) (l := Proofs.Ytlnagfmaiabhaaa.lo P) (by rw [← hN]; exact Wd.mk hPU) w
    have k4 : ∀ w, Calls Try.prog 28 #[.string (mkB (txt N))] w fun e w' => e = .returned (.tuple #[.agg #[.int .u64 (Proofs.Ytlnagfmaiabhaaa.hi P), .int .u64 (Proofs.Ytlnagfmaiabhaaa.lo P)], .int .i64 0]) ∧ Below w.heap.size w w' := fun w =>
      parse_val (mkB (txt N)) N _ w (by rw [mkB_size]; have := txt_len39 (n := N) (by unfold U128 at hPU; omega); omega) (by rw [byts_mkB (dig_bytes (txt_dig N))]; exact txt_num N) (by rw [byts_mkB (dig_bytes (txt_dig N))]; exact pv_txt N) (.inl ⟨by rw [← hN]; exact hPU, by rw [← hN]⟩)
    have k5 : ∀ w, _ := fun w => root_ok P X (Wd.mk hPU) (by rw [← hP]; exact isRoot_sq x0) w
    obtain ⟨T, hT⟩ : ∃ T, mkB (txt N) = T := ⟨_, rfl⟩
    rw [hT] at k3 k4
    have hof : ∀ A c w', Row w' A n ys → _ := fun A c w' h => sof_ok A n c ys S Q w' h hm hb hS hQ
    have hsr : ∀ w', _ := fun w' => spread_ok n S Q X ok hX w'
    have hmn : ∀ A c w', Row w' A n ys → _ := fun A c w' h => min_ok A n c ys lo' w' h h0 (by omega) hlo
    have hmxx : ∀ A c w', Row w' A n ys → _ := fun A c w' h => max_ok A n c ys hi' w' h h0 (by omega) hhi
    have K1 := Lib.hid k1
    have K2 := Lib.hid k2
    have K3 := Lib.hid k3
    have K4 := Lib.hid k4
    have K5 := Lib.hid k5
    have HOf := Lib.hid hof
    have HSr := Lib.hid hsr
    have HMn := Lib.hid hmn
    have HMx := Lib.hid hmxx
    have v1 : IntKind.i64.wrap (hi' - lo') = F := by rw [hF]; exact IntWalk.i64_in _ (by omega)
    have v2 : IntKind.u64.wrap F = F := by simp only [IntKind.wrap, IntKind.signed, IntKind.bits]; simp; omega
    have v3 : IntKind.u64.wrap X = X := by simp only [IntKind.wrap, IntKind.signed, IntKind.bits]; simp; omega
    have v4 : IntKind.u64.wrap (2 * r) = 2 * r := by simp only [IntKind.wrap, IntKind.signed, IntKind.bits]; simp; omega
    have v5 : IntKind.u64.wrap (n : Int) = n := by simp only [IntKind.wrap, IntKind.signed, IntKind.bits]; simp; omega
    have v6 : IntKind.u64.wrap (F * (n : Int)) = G := by rw [hG]; simp only [IntKind.wrap, IntKind.signed, IntKind.bits]; simp; omega
    have v7 : hi' - lo' = F := hF
    clear hr hll hvl hn hy hb hsp ok hS hQ hX hlo hhi hbt hpop okb hrt hN hP hPU hXU k1 k2 k3 k4 k5 hof hsr hmn hmxx hG hT v7 hF
    go_enter Try.func4, Try.ntmps4
    go_wp2_with fail
    refine (HT0.out _).mono ?_
    rintro e w1 ⟨rfl, hb1⟩
    have z1 := hb1.size
    have c1 := Below.cells hb1
    have f1 := Below.frozens hb1
    try simp only [World.size_alloc, World.size_setCell, World.size_drew] at z1 c1 f1
    go_wp2_with fail
    have HB := Lib.hid (show ∀ k, k < n → ∃ b off, a = some ⟨b, off, none⟩ ∧ b < w1.heap.size ∧ w1.cell? ⟨b, off + k, none⟩ = some (.int .i64 (l.getD k 0)) from fun k hk => (HR0.out.below hb1).each k (by omega))
    have bel1 : Below w.heap.size w w1 := (by repeat (first | (with_reducible exact Below.refl _ _) | ((with_reducible refine Below.alloc ?_ ?_ _); rotate_left; (next => ((try dsimp only); (try simp only [World.size_alloc, World.size_setCell, World.size_drew]); omega))) | ((with_reducible refine Below.setCell ?_ ?_ _); rotate_left; (next => ((try dsimp only); (try simp only [World.size_alloc, World.size_setCell, World.size_drew]); omega))) | (with_reducible refine Below.drew ?_) | ((with_reducible refine Below.trans ?_ (Below.mono hb1 ?_)); rotate_left; (next => ((try dsimp only); (try simp only [World.size_alloc, World.size_setCell, World.size_drew]); omega)))))
    clear c1 f1 qa qf
    go_loopw [3, 24] (fun v i wr => ∃ k : Nat, k ≤ n ∧ i = .int .i64 k ∧ wr.ownsRow w1.heap.size 3 1 v k ((List.take k ys).map (Value.int .i64)) ∧ Below w1.heap.size w1 wr) (fun _ i _ => n - (intOf i).toNat)
    case atStart => exact ⟨0, Nat.zero_le _, rfl, World.ownsRow_nil _ _ _ _, Below.refl _ _⟩
    case round =>
      obtain ⟨k, hk, rfl, hown, bel⟩ := hrel
      have hsz := bel.size
      by_cases hlt : k < n
      · obtain ⟨bkx, offx, hAx, ltx, hrx⟩ := HB.out k hlt
        subst hAx
        replace hrx := (bel.cell (p := ⟨bkx, offx + k, none⟩) ltx).trans hrx
        obtain ⟨x, hvx, hxx⟩ := name_num hrx
        have HX := Lib.hid hvx
        clear hvx hrx
        obtain ⟨y, hyv⟩ : ∃ y, y = within x 16777217 := ⟨_, rfl⟩
        have HY := Lib.hid hyv
        have htk : List.take (k + 1) ys = List.take k ys ++ [y] := by rw [take_snoc _ (by have := HL.out; omega), HG.out k (by omega), ← HX.out, ← HY.out]
        have HT := Lib.hid htk
        clear hyv htk
        go_wp2_with fail
        refine (within_any x 16777217 y _ (by omega) (by omega) HY.out.symm).mono ?_
        rintro e w' ⟨rfl, rfl⟩
        go_wp2_with (at_builtin; (refine wpList_append_own _ rfl _ _ 32 rfl (w1.heap.size) 3 i0 (.int .i64 0) 1 8 Try.underlying32 hi hz0 hz1 hz2 rfl (by decide) _ _ _ rfl (World.ownsRow.alloc hown _) ⟨wr.heap.size, 0, none⟩ 1 1 [.int .i64 (y)] rfl rfl (app1_cells _ _ _) (app1_one _ _) (by unfold maxLen; omega) (by omega) (by simp; omega) ?_))
        intro vq wq ownq grq _
        have own2 : wq.ownsRow w1.heap.size 3 1 vq (k + 1) ((List.take (k + 1) ys).map (Value.int .i64)) := by rw [HT.out]; simpa [List.map_append, List.map_take] using ownq
        have bel2 := (bel.alloc hsz _).grown grq (by simp; omega) (fun g hg => (hown.lt g hg).1)
        have HO := Lib.hid own2
        clear ownq grq hown own2 hxx bel
        go_wp2_with fail
        go_roundw
        case rel => first | exact ⟨k + 1, by omega, by go_num, HO.out, bel2⟩ | ((repeat apply Exists.intro); exact ⟨⟨k + 1, by omega, by go_num, HO.out, bel2⟩, rfl⟩)
        case measure => simp [intOf]; omega
      · obtain rfl : n = k := by omega
        rw [List.take_of_length_le (by have := HL.out; omega)] at hown
        obtain ⟨w5, rfl⟩ : ∃ z : World, z = wr := ⟨_, rfl⟩
        obtain ⟨A5, c5, rfl, p5, q5, n5⟩ := own_form hown
        have R5 := Lib.hid (Row.of_own hown)
        have o5 := Lib.hid hown
        have hb5 := bel
        have z5 := hsz
        clear hown bel hsz hlt hk
        go_wp2_with fail
        have qa := alloc_cells
        have qf := alloc_frozens
        refine (HOf.out _ _ _ R5.out).mono ?_
        rintro e w6 ⟨rfl, hb6⟩
        have z6 := hb6.size
        have c6 := Below.cells hb6
        have f6 := Below.frozens hb6
        try simp only [World.size_alloc, World.size_setCell, World.size_drew] at z6 c6 f6
        go_wp2_with fail
        refine (HSr.out _).mono ?_
        rintro e w7 ⟨rfl, hb7⟩
        have z7 := hb7.size
        have c7 := Below.cells hb7
        have f7 := Below.frozens hb7
        try simp only [World.size_alloc, World.size_setCell, World.size_drew] at z7 c7 f7
        go_wp2_with fail
        refine (HMx.out A5 c5 _ (R5.out.below (by repeat (first | (with_reducible exact Below.refl _ _) | ((with_reducible refine Below.alloc ?_ ?_ _); rotate_left; (next => ((try dsimp only); (try simp only [World.size_alloc, World.size_setCell, World.size_drew]); omega))) | ((with_reducible refine Below.setCell ?_ ?_ _); rotate_left; (next => ((try dsimp only); (try simp only [World.size_alloc, World.size_setCell, World.size_drew]); omega))) | (with_reducible refine Below.drew ?_) | ((with_reducible refine Below.trans ?_ (Below.mono hb7 ?_)); rotate_left; (next => ((try dsimp only); (try simp only [World.size_alloc, World.size_setCell, World.size_drew]); omega))) | ((with_reducible refine Below.trans ?_ (Below.mono hb6 ?_)); rotate_left; (next => ((try dsimp only); (try simp only [World.size_alloc, World.size_setCell, World.size_drew]); omega))))))).mono ?_
        rintro e w' ⟨rfl, rfl⟩
        go_wp2_with fail
        refine (HMn.out A5 c5 _ (R5.out.below (by repeat (first | (with_reducible exact Below.refl _ _) | ((with_reducible refine Below.alloc ?_ ?_ _); rotate_left; (next => ((try dsimp only); (try simp only [World.size_alloc, World.size_setCell, World.size_drew]); omega))) | ((with_reducible refine Below.setCell ?_ ?_ _); rotate_left; (next => ((try dsimp only); (try simp only [World.size_alloc, World.size_setCell, World.size_drew]); omega))) | (with_reducible refine Below.drew ?_) | ((with_reducible refine Below.trans ?_ (Below.mono hb7 ?_)); rotate_left; (next => ((try dsimp only); (try simp only [World.size_alloc, World.size_setCell, World.size_drew]); omega))) | ((with_reducible refine Below.trans ?_ (Below.mono hb6 ?_)); rotate_left; (next => ((try dsimp only); (try simp only [World.size_alloc, World.size_setCell, World.size_drew]); omega))))))).mono ?_
        rintro e w' ⟨rfl, rfl⟩
        go_wp2_with fail
        refine (K1.out _).mono ?_
        rintro e w8 ⟨rfl, hb8⟩
        have z8 := hb8.size
        have c8 := Below.cells hb8
        have f8 := Below.frozens hb8
        try simp only [World.size_alloc, World.size_setCell, World.size_drew] at z8 c8 f8
        go_wp2_with fail
        refine (K2.out _).mono ?_
        rintro e w9 ⟨rfl, hb9⟩
        have z9 := hb9.size
        have c9 := Below.cells hb9
        have f9 := Below.frozens hb9
        try simp only [World.size_alloc, World.size_setCell, World.size_drew] at z9 c9 f9
        go_wp2_with fail
        refine (K3.out _).mono ?_
        rintro e w10 ⟨rfl, hb10⟩
        have z10 := hb10.size
        have c10 := Below.cells hb10
        have f10 := Below.frozens hb10
        try simp only [World.size_alloc, World.size_setCell, World.size_drew] at z10 c10 f10
        go_wp2_with fail
        refine (K4.out _).mono ?_
        rintro e w11 ⟨rfl, hb11⟩
        have z11 := hb11.size
        have c11 := Below.cells hb11
        have f11 := Below.frozens hb11
        try simp only [World.size_alloc, World.size_setCell, World.size_drew] at z11 c11 f11
        go_wp2_with fail
        refine (K5.out _).mono ?_
        rintro e w12 ⟨rfl, hb12⟩
        have z12 := hb12.size
        have c12 := Below.cells hb12
        have f12 := Below.frozens hb12
        try simp only [World.size_alloc, World.size_setCell, World.size_drew] at z12 c12 f12
        go_wp2_with fail
        go_ret
        exact ⟨by simp, (by repeat (first | (with_reducible exact Below.refl _ _) | ((with_reducible refine Below.alloc ?_ ?_ _); rotate_left; (next => ((try dsimp only); (try simp only [World.size_alloc, World.size_setCell, World.size_drew]); omega))) | ((with_reducible refine Below.setCell ?_ ?_ _); rotate_left; (next => ((try dsimp only); (try simp only [World.size_alloc, World.size_setCell, World.size_drew]); omega))) | (with_reducible refine Below.drew ?_) | ((with_reducible refine Below.trans ?_ (Below.mono hb12 ?_)); rotate_left; (next => ((try dsimp only); (try simp only [World.size_alloc, World.size_setCell, World.size_drew]); omega))) | ((with_reducible refine Below.trans ?_ (Below.mono hb11 ?_)); rotate_left; (next => ((try dsimp only); (try simp only [World.size_alloc, World.size_setCell, World.size_drew]); omega))) | ((with_reducible refine Below.trans ?_ (Below.mono hb10 ?_)); rotate_left; (next => ((try dsimp only); (try simp only [World.size_alloc, World.size_setCell, World.size_drew]); omega))) | ((with_reducible refine Below.trans ?_ (Below.mono hb9 ?_)); rotate_left; (next => ((try dsimp only); (try simp only [World.size_alloc, World.size_setCell, World.size_drew]); omega))) | ((with_reducible refine Below.trans ?_ (Below.mono hb8 ?_)); rotate_left; (next => ((try dsimp only); (try simp only [World.size_alloc, World.size_setCell, World.size_drew]); omega))) | ((with_reducible refine Below.trans ?_ (Below.mono hb7 ?_)); rotate_left; (next => ((try dsimp only); (try simp only [World.size_alloc, World.size_setCell, World.size_drew]); omega))) | ((with_reducible refine Below.trans ?_ (Below.mono hb6 ?_)); rotate_left; (next => ((try dsimp only); (try simp only [World.size_alloc, World.size_setCell, World.size_drew]); omega))) | ((with_reducible refine Below.trans ?_ (Below.mono hb5 ?_)); rotate_left; (next => ((try dsimp only); (try simp only [World.size_alloc, World.size_setCell, World.size_drew]); omega))) | ((with_reducible refine Below.trans ?_ (Below.mono hb4 ?_)); rotate_left; (next => ((try dsimp only); (try simp only [World.size_alloc, World.size_setCell, World.size_drew]); omega))) | ((with_reducible refine Below.trans ?_ (Below.mono hb3 ?_)); rotate_left; (next => ((try dsimp only); (try simp only [World.size_alloc, World.size_setCell, World.size_drew]); omega))) | ((with_reducible refine Below.trans ?_ (Below.mono hb2 ?_)); rotate_left; (next => ((try dsimp only); (try simp only [World.size_alloc, World.size_setCell, World.size_drew]); omega))) | ((with_reducible refine Below.trans ?_ (Below.mono hb1 ?_)); rotate_left; (next => ((try dsimp only); (try simp only [World.size_alloc, World.size_setCell, World.size_drew]); omega)))))⟩
end Go.Proofs.Ytlnagfmaiabhaaa

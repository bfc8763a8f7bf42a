
/-
  beat.Decode: what the bytes say, or why they are no beat.
  beat.Decode of a text whose sum is right.
  Package beat, for the laws: what is written and read, whatever comes.
-/
import Derived.Test.YtpomdnglknbanaaGreatEn
import Derived.Test.YtpomdnglknbanaaGreatQA
set_option linter.unusedSimpArgs false
set_option linter.unusedVariables false
namespace Go.Proofs.YtpomdnglknbanaaGreat
open Go.RowKit
theorem byts_ext (s : ByteArray) (a b : Nat) : byts (s.extract a b) = ((byts s).take b).drop a := by
  unfold byts
  rw [ByteArray.data_extract, Array.toList_extract, List.extract_eq_take_drop, ← List.map_take, ← List.map_drop, List.drop_take]
theorem makes_beat {o : Oper} (h : o.op = .alloc 67) (hg : o.guard = none) : Makes Tryz.prog o #[.string ⟨#[]⟩, .int .i64 0, .int .i64 0] 67 :=
  ⟨hg, fun ev w => by unfold execOp; rw [h]; simp [go_sem]⟩

set_option maxHeartbeats 8000000 in
set_option maxRecDepth 100000 in
theorem decode_bad (s : ByteArray) (n : Nat) (w : World) (hm : s.size ≤ 9223372036854775807) (h : decE (byts s) = n) (h0 : n ≠ 0) :
    Calls Tryz.prog 49 #[.string s] w fun e w' => e = .returned (.tuple #[.agg #[.string ⟨#[]⟩, .int .i64 0, .int .i64 0], .int .i64 n]) ∧ Below w.heap.size w w' := by
  have qa := alloc_cells
  have qf := alloc_frozens
  by_cases c0 : s.size < 2
  · obtain rfl : 8 = n := by rw [← h]; unfold decE; rw [if_pos (by rw [byts_len]; exact c0)]
    have c0' : (s.size : Int) < 2 := by omega
    clear h h0
    go_enter Tryz.func49, Tryz.ntmps49
    go_wp2_with fail
    refine bodyPost_ret (v := .tuple #[.agg #[.string ⟨#[]⟩, .int .i64 0, .int .i64 0], .int .i64 8]) (by simp [results, Tryz.f49, go_sem, ↓IntWalk.iteOmega, *]) rfl ?_
    exact ⟨rfl, (by repeat (first | (with_reducible exact Below.refl _ _) | ((with_reducible refine Below.alloc ?_ ?_ _); rotate_left; (next => ((try dsimp only); (try simp only [World.size_alloc, World.size_setCell, World.size_drew]); omega))) | ((with_reducible refine Below.setCell ?_ ?_ _); rotate_left; (next => ((try dsimp only); (try simp only [World.size_alloc, World.size_setCell, World.size_drew]); omega))) | (with_reducible refine Below.drew ?_) | (refine Below.trans ?_ (by assumption))))⟩
  · have l0 : 0 < s.size := by omega
    have l1 : 1 < s.size := by omega
    obtain ⟨x, hx⟩ : ∃ x : UInt8, s[0]'l0 = x := ⟨_, rfl⟩
    obtain ⟨y, hy⟩ : ∃ x : UInt8, s[1]'l1 = x := ⟨_, rfl⟩
    have xb := UInt8.toNat_lt x
    have yb := UInt8.toNat_lt y
    obtain ⟨X, hX⟩ : ∃ X, x.toNat = X := ⟨_, rfl⟩
    obtain ⟨Y, hY⟩ : ∃ X, y.toNat = X := ⟨_, rfl⟩
    rw [hX] at xb
    rw [hY] at yb
    have g0 : (byts s).getD 0 0 = X := by rw [byts_get s l0, hx, hX]
    have g1 : (byts s).getD 1 0 = Y := by rw [byts_get s l1, hy, hY]
    have wy : IntKind.i64.wrap (Y : Int) = Y := IntWalk.i64_in _ (by omega)
    have k0 : (0 : Int) < s.size := by omega
    have k1 : (1 : Int) < s.size := by omega
    have k2 : ¬ (s.size : Int) < 2 := by omega
    unfold decE at h
    rw [g0, g1, byts_len, if_neg c0] at h
    clear g0 g1
    by_cases c1 : X = 72
    · by_cases c2 : Y < 1
      · obtain rfl : 3 = n := by rw [← h, if_pos (by omega)]
        have d1 : ((X : Int) == 72) = true := by rw [c1]; rfl
        have d2 : ((X : Int) != 72) = false := by rw [c1]; rfl
        have d3 : (Y : Int) < 1 := by omega
        clear h h0 c0 c1 c2
        go_enter Tryz.func49, Tryz.ntmps49
        go_wp2_with fail
        refine bodyPost_ret (v := .tuple #[.agg #[.string ⟨#[]⟩, .int .i64 0, .int .i64 0], .int .i64 3]) (by simp [results, Tryz.f49, go_sem, ↓IntWalk.iteOmega, *]) rfl ?_
        exact ⟨rfl, (by repeat (first | (with_reducible exact Below.refl _ _) | ((with_reducible refine Below.alloc ?_ ?_ _); rotate_left; (next => ((try dsimp only); (try simp only [World.size_alloc, World.size_setCell, World.size_drew]); omega))) | ((with_reducible refine Below.setCell ?_ ?_ _); rotate_left; (next => ((try dsimp only); (try simp only [World.size_alloc, World.size_setCell, World.size_drew]); omega))) | (with_reducible refine Below.drew ?_) | (refine Below.trans ?_ (by assumption))))⟩
      · by_cases c3 : 8 < Y
        · obtain rfl : 3 = n := by rw [← h, if_pos (by omega)]
          have d1 : ((X : Int) == 72) = true := by rw [c1]; rfl
          have d2 : ((X : Int) != 72) = false := by rw [c1]; rfl
          have d3 : ¬ (Y : Int) < 1 := by omega
          have d4 : (8 : Int) < Y := by omega
          clear h h0 c0 c1 c2
          go_enter Tryz.func49, Tryz.ntmps49
          go_wp2_with fail
          refine bodyPost_ret (v := .tuple #[.agg #[.string ⟨#[]⟩, .int .i64 0, .int .i64 0], .int .i64 3]) (by simp [results, Tryz.f49, go_sem, ↓IntWalk.iteOmega, *]) rfl ?_
          exact ⟨rfl, (by repeat (first | (with_reducible exact Below.refl _ _) | ((with_reducible refine Below.alloc ?_ ?_ _); rotate_left; (next => ((try dsimp only); (try simp only [World.size_alloc, World.size_setCell, World.size_drew]); omega))) | ((with_reducible refine Below.setCell ?_ ?_ _); rotate_left; (next => ((try dsimp only); (try simp only [World.size_alloc, World.size_setCell, World.size_drew]); omega))) | (with_reducible refine Below.drew ?_) | (refine Below.trans ?_ (by assumption))))⟩
        · rw [if_neg (by omega)] at h
          have d1 : ((X : Int) == 72) = true := by rw [c1]; rfl
          have d2 : ((X : Int) != 72) = false := by rw [c1]; rfl
          have d3 : ¬ (Y : Int) < 1 := by omega
          have d4 : ¬ (8 : Int) < Y := by omega
          have w14 : IntKind.i64.wrap (14 + (Y : Int)) = ((14 + Y : Nat) : Int) := IntWalk.i64_in _ (by omega)
          by_cases c4 : s.size < 14 + Y
          · obtain rfl : 8 = n := by rw [← h, if_pos c4]
            have d5 : (s.size : Int) < ((14 + Y : Nat) : Int) := by omega
            clear h h0 c0 c1 c2
            go_enter Tryz.func49, Tryz.ntmps49
            go_wp2_with fail
            refine bodyPost_ret (v := .tuple #[.agg #[.string ⟨#[]⟩, .int .i64 0, .int .i64 0], .int .i64 8]) (by simp [results, Tryz.f49, go_sem, ↓IntWalk.iteOmega, *]) rfl ?_
            exact ⟨rfl, (by repeat (first | (with_reducible exact Below.refl _ _) | ((with_reducible refine Below.alloc ?_ ?_ _); rotate_left; (next => ((try dsimp only); (try simp only [World.size_alloc, World.size_setCell, World.size_drew]); omega))) | ((with_reducible refine Below.setCell ?_ ?_ _); rotate_left; (next => ((try dsimp only); (try simp only [World.size_alloc, World.size_setCell, World.size_drew]); omega))) | (with_reducible refine Below.drew ?_) | (refine Below.trans ?_ (by assumption))))⟩
          · rw [if_neg c4] at h
            have d5 : ¬ (s.size : Int) < ((14 + Y : Nat) : Int) := by omega
            by_cases c5 : 14 + Y < s.size
            · obtain rfl : 3 = n := by rw [← h, if_pos c5]
              have d6 : ((14 + Y : Nat) : Int) < (s.size : Int) := by omega
              clear h h0 c0 c1 c2
              go_enter Tryz.func49, Tryz.ntmps49
              go_wp2_with fail
              refine bodyPost_ret (v := .tuple #[.agg #[.string ⟨#[]⟩, .int .i64 0, .int .i64 0], .int .i64 3]) (by simp [results, Tryz.f49, go_sem, ↓IntWalk.iteOmega, *]) rfl ?_
              exact ⟨rfl, (by repeat (first | (with_reducible exact Below.refl _ _) | ((with_reducible refine Below.alloc ?_ ?_ _); rotate_left; (next => ((try dsimp only); (try simp only [World.size_alloc, World.size_setCell, World.size_drew]); omega))) | ((with_reducible refine Below.setCell ?_ ?_ _); rotate_left; (next => ((try dsimp only); (try simp only [World.size_alloc, World.size_setCell, World.size_drew]); omega))) | (with_reducible refine Below.drew ?_) | (refine Below.trans ?_ (by assumption))))⟩
            · rw [if_neg c5] at h
              have d6 : ¬ ((14 + Y : Nat) : Int) < (s.size : Int) := by omega
              have w10 : IntKind.i64.wrap (10 + (Y : Int)) = ((10 + Y : Nat) : Int) := IntWalk.i64_in _ (by omega)
              obtain ⟨p, hp⟩ : ∃ p, crcOf ((byts s).take (10 + Y)) = p := ⟨_, rfl⟩
              obtain ⟨q, hq⟩ : ∃ q, numL ((byts s).drop (10 + Y)) = q := ⟨_, rfl⟩
              rw [hp, hq] at h
              have hpq : ¬ p = q := fun e => h0 (by rw [← h, if_neg (by simpa using e)])
              rw [if_pos hpq] at h
              subst h
              have dpq : ((p : Int) != (q : Int)) = true := by simp; omega
              have dpq' : ((p : Int) == (q : Int)) = false := by simp; omega
              have z1 : (s.extract 0 (10 + Y)).size = 10 + Y := by rw [ByteArray.size_extract]; omega
              have z2 : (s.extract (10 + Y) s.size).size = 4 := by rw [ByteArray.size_extract]; omega
              have C1 := Lib.hid (fun w' => crc_ok (s.extract 0 (10 + Y)) p w' (by omega) (by rw [byts_ext, List.drop_zero]; exact hp))
              have N1 := fun w' => number_ok (s.extract (10 + Y) s.size) w' (by omega) (by omega)
              have e2 : byts (s.extract (10 + Y) s.size) = (byts s).drop (10 + Y) := by rw [byts_ext, List.take_of_length_le (by rw [byts_len]; omega)]
              rw [e2, hq] at N1
              have NN := Lib.hid N1
              have d7 : ((10 + Y : Nat) : Int) ≤ s.size := by omega
              have d8 : (0 : Int) ≤ ((10 + Y : Nat) : Int) := by omega
              clear h0 c0 c1 c2 N1 e2 hp hq hpq
              go_enter Tryz.func49, Tryz.ntmps49
              go_wp2_with fail
              refine (C1.out _).mono ?_
              rintro e w1 ⟨rfl, hb1⟩
              have z1 := hb1.size
              have c1 := Below.cells hb1
              have f1 := Below.frozens hb1
              try simp only [World.size_alloc, World.size_setCell, World.size_drew] at z1 c1 f1
              go_wp2_with fail
              refine (NN.out _).mono ?_
              rintro e w2 ⟨rfl, hb2⟩
              have z2 := hb2.size
              have c2 := Below.cells hb2
              have f2 := Below.frozens hb2
              try simp only [World.size_alloc, World.size_setCell, World.size_drew] at z2 c2 f2
              go_wp2_with fail
              refine bodyPost_ret (v := .tuple #[.agg #[.string ⟨#[]⟩, .int .i64 0, .int .i64 0], .int .i64 9]) (by simp [results, Tryz.f49, go_sem, ↓IntWalk.iteOmega, *]) rfl ?_
              exact ⟨rfl, (by repeat (first | (with_reducible exact Below.refl _ _) | ((with_reducible refine Below.alloc ?_ ?_ _); rotate_left; (next => ((try dsimp only); (try simp only [World.size_alloc, World.size_setCell, World.size_drew]); omega))) | ((with_reducible refine Below.setCell ?_ ?_ _); rotate_left; (next => ((try dsimp only); (try simp only [World.size_alloc, World.size_setCell, World.size_drew]); omega))) | (with_reducible refine Below.drew ?_) | ((with_reducible refine Below.trans ?_ (Below.mono hb2 ?_)); rotate_left; (next => ((try dsimp only); (try simp only [World.size_alloc, World.size_setCell, World.size_drew]); omega))) | ((with_reducible refine Below.trans ?_ (Below.mono hb1 ?_)); rotate_left; (next => ((try dsimp only); (try simp only [World.size_alloc, World.size_setCell, World.size_drew]); omega)))))⟩
    · obtain rfl : 3 = n := by rw [← h, if_pos (by omega)]
      have d1 : ((X : Int) == 72) = false := by simp; omega
      have d2 : ((X : Int) != 72) = true := by simp; omega
      clear h h0 c0 c1
      go_enter Tryz.func49, Tryz.ntmps49
      go_wp2_with fail
      refine bodyPost_ret (v := .tuple #[.agg #[.string ⟨#[]⟩, .int .i64 0, .int .i64 0], .int .i64 3]) (by simp [results, Tryz.f49, go_sem, ↓IntWalk.iteOmega, *]) rfl ?_
      exact ⟨rfl, (by repeat (first | (with_reducible exact Below.refl _ _) | ((with_reducible refine Below.alloc ?_ ?_ _); rotate_left; (next => ((try dsimp only); (try simp only [World.size_alloc, World.size_setCell, World.size_drew]); omega))) | ((with_reducible refine Below.setCell ?_ ?_ _); rotate_left; (next => ((try dsimp only); (try simp only [World.size_alloc, World.size_setCell, World.size_drew]); omega))) | (with_reducible refine Below.drew ?_) | (refine Below.trans ?_ (by assumption))))⟩
end Go.Proofs.YtpomdnglknbanaaGreat
namespace Go.Proofs.YtpomdnglknbanaaGreat
open Go.RowKit
/-- What all three ways behind the sum have in common. -/
theorem dec_zero {l : List Nat} (h : decE l = 0) : ¬ l.length < 2 ∧ l.getD 0 0 = 72 ∧ 1 ≤ l.getD 1 0 ∧ l.getD 1 0 ≤ 8 ∧ l.length = 14 + l.getD 1 0 ∧ crcOf (l.take (10 + l.getD 1 0)) = numL (l.drop (10 + l.getD 1 0)) := by
  unfold decE at h
  split at h
  · cases h
  · split at h
    · cases h
    · split at h
      · cases h
      · split at h
        · cases h
        · split at h
          · cases h
          · rename_i h1 h2 h3 h4 h5
            exact ⟨h1, by omega, by omega, by omega, by omega, Decidable.of_not_not h5⟩

set_option maxHeartbeats 8000000 in
set_option maxRecDepth 100000 in
theorem decode_mid (s : ByteArray) (n : Int) (w : World) (h : decE (byts s) = 0)
    (hc : ∀ w', Calls Tryz.prog 45 #[.agg #[.string (s.extract 2 (2 + (byts s).getD 1 0)), .int .i64 (decI (byts s)), .int .i64 (decS (byts s))]] w' fun e w'' => e = .returned (.int .i64 n) ∧ Below w'.heap.size w' w'') :
    Calls Tryz.prog 49 #[.string s] w fun e w' => e = .returned (.tuple #[if n = 0 then .agg #[.string (s.extract 2 (2 + (byts s).getD 1 0)), .int .i64 (decI (byts s)), .int .i64 (decS (byts s))] else .agg #[.string ⟨#[]⟩, .int .i64 0, .int .i64 0], .int .i64 (if n = 0 then 0 else 3)]) ∧ Below w.heap.size w w' := by
  have qa := alloc_cells
  have qf := alloc_frozens
  obtain ⟨c0, g0, g1, g2, g3, g4⟩ := dec_zero h
  clear h
  rw [byts_len] at c0 g3
  have l0 : 0 < s.size := by omega
  have l1 : 1 < s.size := by omega
  obtain ⟨x, hx⟩ : ∃ x : UInt8, s[0]'l0 = x := ⟨_, rfl⟩
  obtain ⟨y, hy⟩ : ∃ x : UInt8, s[1]'l1 = x := ⟨_, rfl⟩
  obtain ⟨Y, hY⟩ : ∃ X, y.toNat = X := ⟨_, rfl⟩
  have e0 : (byts s).getD 0 0 = x.toNat := by rw [byts_get s l0, hx]
  have e1 : (byts s).getD 1 0 = Y := by rw [byts_get s l1, hy, hY]
  have hX : x.toNat = 72 := by rw [← e0, g0]
  have hdI : decI (byts s) = numL ((byts s).drop (2 + Y)) := by unfold decI; rw [e1]
  have hdS : decS (byts s) = numL ((byts s).drop (6 + Y)) := by unfold decS; rw [e1]
  rw [e1] at g1 g2 g3 g4 hc ⊢
  clear e0 e1 g0
  obtain ⟨I, hI⟩ : ∃ I, decI (byts s) = I := ⟨_, rfl⟩
  obtain ⟨S, hS⟩ : ∃ I, decS (byts s) = I := ⟨_, rfl⟩
  rw [hI] at hc hdI ⊢
  rw [hS] at hc hdS ⊢
  obtain ⟨p, hp⟩ : ∃ p, crcOf ((byts s).take (10 + Y)) = p := ⟨_, rfl⟩
  have hq : numL ((byts s).drop (10 + Y)) = p := by rw [← g4, hp]
  have wy : IntKind.i64.wrap (Y : Int) = Y := IntWalk.i64_in _ (by omega)
  have k0 : (0 : Int) < s.size := by omega
  have k1 : (1 : Int) < s.size := by omega
  have k2 : ¬ (s.size : Int) < 2 := by omega
  have d3 : ¬ (Y : Int) < 1 := by omega
  have d4 : ¬ (8 : Int) < Y := by omega
  have w14 : IntKind.i64.wrap (14 + (Y : Int)) = ((14 + Y : Nat) : Int) := IntWalk.i64_in _ (by omega)
  have d5 : ¬ (s.size : Int) < ((14 + Y : Nat) : Int) := by omega
  have d6 : ¬ ((14 + Y : Nat) : Int) < (s.size : Int) := by omega
  have w10 : IntKind.i64.wrap (10 + (Y : Int)) = ((10 + Y : Nat) : Int) := IntWalk.i64_in _ (by omega)
  have w2 : IntKind.i64.wrap (2 + (Y : Int)) = ((2 + Y : Nat) : Int) := IntWalk.i64_in _ (by omega)
  have w6 : IntKind.i64.wrap (6 + (Y : Int)) = ((6 + Y : Nat) : Int) := IntWalk.i64_in _ (by omega)
  have C1 := Lib.hid (fun w' => crc_ok (s.extract 0 (10 + Y)) p w' (by rw [ByteArray.size_extract]; omega) (by rw [byts_ext, List.drop_zero]; exact hp))
  have ex : ∀ k, byts (s.extract k s.size) = (byts s).drop k := fun k => by rw [byts_ext, List.take_of_length_le (by rw [byts_len]; omega)]
  have hN : ∀ k q, k + 4 ≤ s.size → numL ((byts s).drop k) = q → ∀ w', Calls Tryz.prog 65 #[.string (s.extract k s.size)] w' fun e w'' => e = .returned (.int .i64 q) ∧ Below w'.heap.size w' w'' := fun k q hk hq w' => by
    have := number_ok (s.extract k s.size) w' (by rw [ByteArray.size_extract]; omega) (by rw [ByteArray.size_extract]; omega)
    rwa [ex, hq] at this
  have N0 := Lib.hid (hN (10 + Y) p (by omega) hq)
  have N1 := Lib.hid (hN (2 + Y) I (by omega) hdI.symm)
  have N2 := Lib.hid (hN (6 + Y) S (by omega) hdS.symm)
  have HC := Lib.hid hc
  have d7 : ((10 + Y : Nat) : Int) ≤ s.size := by omega
  have d8 : (0 : Int) ≤ ((10 + Y : Nat) : Int) := by omega
  have d9 : ((2 + Y : Nat) : Int) ≤ s.size := by omega
  have d10 : (0 : Int) ≤ ((2 + Y : Nat) : Int) := by omega
  have d11 : ((6 + Y : Nat) : Int) ≤ s.size := by omega
  have d12 : (0 : Int) ≤ ((6 + Y : Nat) : Int) := by omega
  have d13 : (2 : Int) ≤ ((2 + Y : Nat) : Int) := by omega
  clear hN ex hc hdI hdS hI hS hp hq g1 g2 g3 g4 c0
  by_cases hn : n = 0
  · subst hn
    rw [if_pos rfl, if_pos rfl]
    go_enter Tryz.func49, Tryz.ntmps49
    go_wp2_with fail
    refine (C1.out _).mono ?_
    rintro e w1 ⟨rfl, hb1⟩
    have z1 := hb1.size
    have c1 := Below.cells hb1
    have f1 := Below.frozens hb1
    try simp only [World.size_alloc, World.size_setCell, World.size_drew] at z1 c1 f1
    go_wp2_with fail
    refine (N0.out _).mono ?_
    rintro e w2 ⟨rfl, hb2⟩
    have z2 := hb2.size
    have c2 := Below.cells hb2
    have f2 := Below.frozens hb2
    try simp only [World.size_alloc, World.size_setCell, World.size_drew] at z2 c2 f2
    go_wp2_with fail
    refine wp_region_rest 15 (by kernel_rfl) (by kernel_rfl) ?_
    simp only [List.take_succ_cons, List.take_zero, List.drop_succ_cons, List.drop_zero]
    repeat (first | (refine wpMild_skip rfl ?_) | (refine wpMild_step rfl (fun K hK => ?_); apply Exists.intro; refine ⟨fun w2 h2 => ?_, ?_⟩; (next => (have h2' := Below.undrew h2; have g1 := Below.cells h2'; have g2 := Below.frozens h2'; (try simp only [World.size_alloc, World.size_setCell] at g1 g2); clear h2 h2'; unfold mildAt; first | (go_simp; simp only [mildUpon, true_and]; (first | (go_at_call 65; first | (with_reducible exact N1.out _) | (with_reducible exact N2.out _)))) | (simp [mildUpon, go_sem, ↓IntWalk.iteOmega, *]; done) | (simp [mildUpon, go_sem, ↓IntWalk.iteOmega, *]; (try go_ints); rfl)))); (go_simp; refine hK _ ?_; clear hK K))
    refine wpMild_nil ?_
    refine rest_make _ _ rfl (makes_beat rfl rfl) (fun b3 _ => ?_)
    rw [oneBlock_of]
    go_simp
    refine rest_tail ?_ rfl rfl (fun w2 hw2 => ?_) ?_
    rotate_left
    next =>
      obtain ⟨d2, e2⟩ := block_cells hw2.one.2
      unfold tailAt
      simp [tailUpon, go_sem, ↓IntWalk.iteOmega, *]
      exact (((hw2).one_set 0 _).one_set 1 _).one_set 2 _
    repeat (first | (refine rest_nil ?_) | (refine rest_mild rfl (fun K hK => ?_); apply Exists.intro; refine ⟨fun w2 h2 => ?_, ?_⟩; (next => (unfold mildAt; first | (simp [mildUpon, go_sem]; done) | (simp [mildUpon, go_sem]; rfl))); (go_simp; refine hK _ ?_; clear hK K)))
    intro w3 st3
    have hb3 := Below.undrew st3.below
    obtain ⟨lo3, blk3⟩ := st3.one
    have up3 := st3.one_lt
    obtain ⟨d3, e3⟩ := block_cells blk3
    clear st3 blk3
    try simp only [World.size_alloc, World.size_setCell, World.size_drew] at lo3
    have z3 := hb3.size
    have c3 := Below.cells hb3
    have f3 := Below.frozens hb3
    try simp only [World.size_alloc, World.size_setCell, World.size_drew] at z3 c3 f3
    go_wp2_with fail
    refine (HC.out _).mono ?_
    rintro e w4 ⟨rfl, hb4⟩
    have z4 := hb4.size
    have c4 := Below.cells hb4
    have f4 := Below.frozens hb4
    try simp only [World.size_alloc, World.size_setCell, World.size_drew] at z4 c4 f4
    go_wp2_with fail
    refine bodyPost_ret (v := .tuple #[.agg #[.string (s.extract 2 (2 + Y)), .int .i64 I, .int .i64 S], .int .i64 0]) (by simp [results, Tryz.f49, go_sem, ↓IntWalk.iteOmega, *]) rfl ?_
    exact ⟨rfl, (by repeat (first | (with_reducible exact Below.refl _ _) | ((with_reducible refine Below.alloc ?_ ?_ _); rotate_left; (next => ((try dsimp only); (try simp only [World.size_alloc, World.size_setCell, World.size_drew]); omega))) | ((with_reducible refine Below.setCell ?_ ?_ _); rotate_left; (next => ((try dsimp only); (try simp only [World.size_alloc, World.size_setCell, World.size_drew]); omega))) | (with_reducible refine Below.drew ?_) | ((with_reducible refine Below.trans ?_ (Below.mono hb4 ?_)); rotate_left; (next => ((try dsimp only); (try simp only [World.size_alloc, World.size_setCell, World.size_drew]); omega))) | ((with_reducible refine Below.trans ?_ (Below.mono hb3 ?_)); rotate_left; (next => ((try dsimp only); (try simp only [World.size_alloc, World.size_setCell, World.size_drew]); omega))) | ((with_reducible refine Below.trans ?_ (Below.mono hb2 ?_)); rotate_left; (next => ((try dsimp only); (try simp only [World.size_alloc, World.size_setCell, World.size_drew]); omega))) | ((with_reducible refine Below.trans ?_ (Below.mono hb1 ?_)); rotate_left; (next => ((try dsimp only); (try simp only [World.size_alloc, World.size_setCell, World.size_drew]); omega)))))⟩
  · rw [if_neg hn, if_neg hn]
    have hne : (n == 0) = false := by simpa using hn
    have hne2 : (n != 0) = true := by simpa using hn
    go_enter Tryz.func49, Tryz.ntmps49
    go_wp2_with fail
    refine (C1.out _).mono ?_
    rintro e w1 ⟨rfl, hb1⟩
    have z1 := hb1.size
    have c1 := Below.cells hb1
    have f1 := Below.frozens hb1
    try simp only [World.size_alloc, World.size_setCell, World.size_drew] at z1 c1 f1
    go_wp2_with fail
    refine (N0.out _).mono ?_
    rintro e w2 ⟨rfl, hb2⟩
    have z2 := hb2.size
    have c2 := Below.cells hb2
    have f2 := Below.frozens hb2
    try simp only [World.size_alloc, World.size_setCell, World.size_drew] at z2 c2 f2
    go_wp2_with fail
    refine wp_region_rest 15 (by kernel_rfl) (by kernel_rfl) ?_
    simp only [List.take_succ_cons, List.take_zero, List.drop_succ_cons, List.drop_zero]
    repeat (first | (refine wpMild_skip rfl ?_) | (refine wpMild_step rfl (fun K hK => ?_); apply Exists.intro; refine ⟨fun w2 h2 => ?_, ?_⟩; (next => (have h2' := Below.undrew h2; have g1 := Below.cells h2'; have g2 := Below.frozens h2'; (try simp only [World.size_alloc, World.size_setCell] at g1 g2); clear h2 h2'; unfold mildAt; first | (go_simp; simp only [mildUpon, true_and]; (first | (go_at_call 65; first | (with_reducible exact N1.out _) | (with_reducible exact N2.out _)))) | (simp [mildUpon, go_sem, ↓IntWalk.iteOmega, *]; done) | (simp [mildUpon, go_sem, ↓IntWalk.iteOmega, *]; (try go_ints); rfl)))); (go_simp; refine hK _ ?_; clear hK K))
    refine wpMild_nil ?_
    refine rest_make _ _ rfl (makes_beat rfl rfl) (fun b3 _ => ?_)
    rw [oneBlock_of]
    go_simp
    refine rest_tail ?_ rfl rfl (fun w2 hw2 => ?_) ?_
    rotate_left
    next =>
      obtain ⟨d2, e2⟩ := block_cells hw2.one.2
      unfold tailAt
      simp [tailUpon, go_sem, ↓IntWalk.iteOmega, *]
      exact (((hw2).one_set 0 _).one_set 1 _).one_set 2 _
    repeat (first | (refine rest_nil ?_) | (refine rest_mild rfl (fun K hK => ?_); apply Exists.intro; refine ⟨fun w2 h2 => ?_, ?_⟩; (next => (unfold mildAt; first | (simp [mildUpon, go_sem]; done) | (simp [mildUpon, go_sem]; rfl))); (go_simp; refine hK _ ?_; clear hK K)))
    intro w3 st3
    have hb3 := Below.undrew st3.below
    obtain ⟨lo3, blk3⟩ := st3.one
    have up3 := st3.one_lt
    obtain ⟨d3, e3⟩ := block_cells blk3
    clear st3 blk3
    try simp only [World.size_alloc, World.size_setCell, World.size_drew] at lo3
    have z3 := hb3.size
    have c3 := Below.cells hb3
    have f3 := Below.frozens hb3
    try simp only [World.size_alloc, World.size_setCell, World.size_drew] at z3 c3 f3
    go_wp2_with fail
    refine (HC.out _).mono ?_
    rintro e w4 ⟨rfl, hb4⟩
    have z4 := hb4.size
    have c4 := Below.cells hb4
    have f4 := Below.frozens hb4
    try simp only [World.size_alloc, World.size_setCell, World.size_drew] at z4 c4 f4
    go_wp2_with fail
    refine bodyPost_ret (v := .tuple #[.agg #[.string ⟨#[]⟩, .int .i64 0, .int .i64 0], .int .i64 3]) (by simp [results, Tryz.f49, go_sem, ↓IntWalk.iteOmega, *]) rfl ?_
    exact ⟨rfl, (by repeat (first | (with_reducible exact Below.refl _ _) | ((with_reducible refine Below.alloc ?_ ?_ _); rotate_left; (next => ((try dsimp only); (try simp only [World.size_alloc, World.size_setCell, World.size_drew]); omega))) | ((with_reducible refine Below.setCell ?_ ?_ _); rotate_left; (next => ((try dsimp only); (try simp only [World.size_alloc, World.size_setCell, World.size_drew]); omega))) | (with_reducible refine Below.drew ?_) | ((with_reducible refine Below.trans ?_ (Below.mono hb4 ?_)); rotate_left; (next => ((try dsimp only); (try simp only [World.size_alloc, World.size_setCell, World.size_drew]); omega))) | ((with_reducible refine Below.trans ?_ (Below.mono hb3 ?_)); rotate_left; (next => ((try dsimp only); (try simp only [World.size_alloc, World.size_setCell, World.size_drew]); omega))) | ((with_reducible refine Below.trans ?_ (Below.mono hb2 ?_)); rotate_left; (next => ((try dsimp only); (try simp only [World.size_alloc, World.size_setCell, World.size_drew]); omega))) | ((with_reducible refine Below.trans ?_ (Below.mono hb1 ?_)); rotate_left; (next => ((try dsimp only); (try simp only [World.size_alloc, World.size_setCell, World.size_drew]); omega)))))⟩
end Go.Proofs.YtpomdnglknbanaaGreat
namespace Go.Proofs.YtpomdnglknbanaaGreat
open Go.RowKit

theorem encode_cases (s : ByteArray) (i q : Int) (hm : s.size ≤ maxLen) :
    (∃ I Q : Nat, i = I ∧ q = Q ∧ BOK (byts s) I Q ∧ ∀ w, Calls Tryz.prog 25 #[.agg #[.string s, .int .i64 i, .int .i64 q]] w fun e w' => e = .returned (.tuple #[.string (mkB (encL (byts s) I Q)), .int .i64 0]) ∧ Below w.heap.size w w') ∨
    (∃ k : Int, (k = 1 ∨ k = 3) ∧ ∀ w, Calls Tryz.prog 25 #[.agg #[.string s, .int .i64 i, .int .i64 q]] w fun e w' => e = .returned (.tuple #[.string ⟨#[]⟩, .int .i64 k]) ∧ Below w.heap.size w w') := by
  unfold maxLen at hm
  by_cases h : IdOK (byts s) ∧ (0 ≤ i ∧ i < 2147483648) ∧ 1 ≤ q ∧ q < 2147483648
  · obtain ⟨h1, h2, h3⟩ := h
    obtain ⟨I, rfl⟩ := Int.eq_ofNat_of_zero_le h2.1
    obtain ⟨Q, rfl⟩ := Int.eq_ofNat_of_zero_le (show 0 ≤ q by omega)
    have hb : BOK (byts s) I Q := ⟨h1, by omega, by omega, by omega⟩
    exact .inl ⟨I, Q, rfl, rfl, hb, fun w => encode_ok s I Q w hb⟩
  · exact .inr (encode_bad s i q (by omega) h)

/-- What is read of what was written. -/
theorem decode_enc (s : ByteArray) (i q : Nat) (w : World) (h : BOK (byts s) i q) :
    Calls Tryz.prog 49 #[.string (mkB (encL (byts s) i q))] w fun e w' => e = .returned (.tuple #[.agg #[.string s, .int .i64 i, .int .i64 q], .int .i64 0]) ∧ Below w.heap.size w w' := by
  obtain ⟨d0, d1, d2, d3⟩ := dec_enc h
  obtain ⟨hid, hi, hq1, hq2⟩ := h
  have hbb : byts (mkB (encL (byts s) i q)) = encL (byts s) i q := byts_mkB (encL_bytes hid)
  have g1 : (encL (byts s) i q).getD 1 0 = (byts s).length := by simp [encL, plainL, List.getD]
  have ei : (mkB (encL (byts s) i q)).extract 2 (2 + (byts s).length) = s := by
    rw [← mkB_byts ((mkB (encL (byts s) i q)).extract 2 (2 + (byts s).length)), byts_ext, hbb]
    have : ((encL (byts s) i q).take (2 + (byts s).length)).drop 2 = byts s := by
      rw [List.drop_take, show 2 + (byts s).length - 2 = (byts s).length by omega]
      have := d1
      unfold decId at this
      rwa [g1] at this
    rw [this, mkB_byts]
  have := decode_mid (mkB (encL (byts s) i q)) 0 w (by rw [hbb]; exact d0) (fun w' => by
    rw [hbb, g1, d2, d3, ei]
    exact bcheck_ok s i q w' hid (by omega) (by omega))
  rw [hbb, g1, d2, d3, ei, if_pos rfl, if_pos rfl] at this
  exact this

theorem decode_cases (s : ByteArray) (hm : s.size ≤ maxLen) :
    (∃ n : Nat, n ≠ 0 ∧ (decE (byts s) ≠ 0 → n = decE (byts s)) ∧ ∀ w, Calls Tryz.prog 49 #[.string s] w fun e w' => e = .returned (.tuple #[.agg #[.string ⟨#[]⟩, .int .i64 0, .int .i64 0], .int .i64 n]) ∧ Below w.heap.size w w') ∨
    (∃ (id : ByteArray) (i q : Nat), BOK (byts id) i q ∧ s = mkB (encL (byts id) i q)) := by
  unfold maxLen at hm
  by_cases h : decE (byts s) = 0
  · obtain ⟨p1, p2, p3, p4, p5⟩ := dec_parts (byts_bytes s) h
    obtain ⟨id, hid⟩ : ∃ id, s.extract 2 (2 + (byts s).getD 1 0) = id := ⟨_, rfl⟩
    have hbi : byts id = decId (byts s) := by
      rw [← hid, byts_ext, List.drop_take]
      unfold decId
      rw [show 2 + (byts s).getD 1 0 - 2 = (byts s).getD 1 0 by omega]
    have hsz : id.size ≤ 8 := by rw [← byts_len, hbi, p2]; exact p4
    by_cases hb : BOK (byts id) (decI (byts s)) (decS (byts s))
    · exact .inr ⟨id, _, _, hb, by rw [hbi, p1, mkB_byts]⟩
    · refine .inl ⟨3, by omega, fun h' => absurd h h', fun w => ?_⟩
      have : ∃ n : Int, n ≠ 0 ∧ ∀ w', Calls Tryz.prog 45 #[.agg #[.string id, .int .i64 (decI (byts s)), .int .i64 (decS (byts s))]] w' fun e w'' => e = .returned (.int .i64 n) ∧ Below w'.heap.size w' w'' := by
        by_cases c : IdOK (byts id)
        · exact ⟨1, by omega, fun w' => bcheck_arg id _ _ w' c (fun hh => hb ⟨c, by omega, by omega, by omega⟩)⟩
        · exact ⟨3, by omega, fun w' => bcheck_form id _ _ w' (by omega) c⟩
      obtain ⟨n, hn, hc⟩ := this
      have := decode_mid s n w h (fun w' => by rw [hid]; exact hc w')
      rw [if_neg hn, if_neg hn] at this
      exact this
  · exact .inl ⟨decE (byts s), h, fun _ => rfl, fun w => decode_bad s _ w (by omega) rfl h⟩

end Go.Proofs.YtpomdnglknbanaaGreat

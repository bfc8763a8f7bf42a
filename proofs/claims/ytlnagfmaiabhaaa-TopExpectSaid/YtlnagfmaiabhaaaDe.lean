/-
  beat.Decode: what the bytes say, or why they are no beat.
-/
import Derived.Test.YtlnagfmaiabhaaaEn
import Derived.Test.YtlnagfmaiabhaaaQA
set_option linter.unusedSimpArgs false
set_option linter.unusedVariables false
namespace Go.Proofs.Ytlnagfmaiabhaaa
open Go.RowKit
theorem byts_ext (s : ByteArray) (a b : Nat) : byts (s.extract a b) = ((byts s).take b).drop a := by
  unfold byts
  rw [ByteArray.data_extract, Array.toList_extract, List.extract_eq_take_drop, ← List.map_take, ← List.map_drop, List.drop_take]
theorem makes_beat {o : Oper} (h : o.op = .alloc 57) (hg : o.guard = none) : Makes Try.prog o #[.string ⟨#[]⟩, .int .i64 0, .int .i64 0] 57 :=
  ⟨hg, fun ev w => by unfold execOp; rw [h]; simp [go_sem]⟩

set_option maxHeartbeats 8000000 in
set_option maxRecDepth 100000 in
theorem decode_bad (s : ByteArray) (n : Nat) (w : World) (hm : s.size ≤ 9223372036854775807) (h : decE (byts s) = n) (h0 : n ≠ 0) :
    Calls Try.prog 33 #[.string s] w fun e w' => e = .returned (.tuple #[.agg #[.string ⟨#[]⟩, .int .i64 0, .int .i64 0], .int .i64 n]) ∧ Below w.heap.size w w' := by
  have qa := alloc_cells
  have qf := alloc_frozens
  by_cases c0 : s.size < 2
  · obtain rfl : 8 = n := by rw [← h]; unfold decE; rw [if_pos (by rw [byts_len]; exact c0)]
    have c0' : (s.size : Int) < 2 := by omega
    clear h h0
    go_enter Try.func33, Try.ntmps33
    go_wp2_with fail
    refine bodyPost_ret (v := .tuple #[.agg #[.string ⟨#[]⟩, .int .i64 0, .int .i64 0], .int .i64 8]) (by simp [results, Try.f33, go_sem, ↓IntWalk.iteOmega, *]) rfl ?_
    exact ⟨rfl, (by repeat (first | (with_reducible exact Below.refl _ _) | ((with_reducible refine Below.alloc ?_ ?_ _); rotate_left; (next => ((try dsimp only); (try simp only [World.size_alloc, World.size_setCell, World.size_drew]); omega))) | ((with_reducible refine Below.setCell ?_ ?_ _); rotate_left; (next => ((try dsimp only); (try simp only [World.size_alloc, World.size_setCell, World.size_drew]); omega))) | (with_reducible refine Below.drew ?_) | (refine Below.trans ?_ (by assumption))))⟩
  · have l0 : 0 < s.size := by omega
    have l1 : 1 < s.size := by omega
    obtain ⟨x, hx⟩ : ∃ x : UInt8, s[0]'l0 = x := ⟨_, rfl⟩
    obtain ⟨y, hy⟩ : ∃ x : UInt8, s[1]'l1 = x := ⟨_, rfl⟩
    have xb := UInt8.toNat_lt x
    have yb := UInt8.toNat_lt y
    obtain ⟨X, hX⟩ : ∃ X, x.toNat = X := ⟨_, rfl⟩
    obtain ⟨Y, hY⟩ : ∃ X, y.toNat = X := ⟨_, rfl⟩
    rw [hX] at xb
    rw [hY] at yb
    have g0 : (byts s).getD 0 0 = X := by rw [byts_get s l0, hx, hX]
    have g1 : (byts s).getD 1 0 = Y := by rw [byts_get s l1, hy, hY]
    have wy : IntKind.i64.wrap (Y : Int) = Y := IntWalk.i64_in _ (by omega)
    have k0 : (0 : Int) < s.size := by omega
    have k1 : (1 : Int) < s.size := by omega
    have k2 : ¬ (s.size : Int) < 2 := by omega
    unfold decE at h
    rw [g0, g1, byts_len, if_neg c0] at h
    clear g0 g1
    by_cases c1 : X = 72
    · by_cases c2 : Y < 1
      · obtain rfl : 3 = n := by rw [← h, if_pos (by omega)]
        have d1 : ((X : Int) == 72) = true := by rw [c1]; rfl
        have d2 : ((X : Int) != 72) = false := by rw [c1]; rfl
        have d3 : (Y : Int) < 1 := by omega
        clear h h0 c0 c1 c2
        go_enter Try.func33, Try.ntmps33
        go_wp2_with fail
        refine bodyPost_ret (v := .tuple #[.agg #[.string ⟨#[]⟩, .int .i64 0, .int .i64 0], .int .i64 3]) (by simp [results, Try.f33, go_sem, ↓IntWalk.iteOmega, *]) rfl ?_
        exact ⟨rfl, (by repeat (first | (with_reducible exact Below.refl _ _) | ((with_reducible refine Below.alloc ?_ ?_ _); rotate_left; (next => ((try dsimp only); (try simp only [World.size_alloc, World.size_setCell, World.size_drew]); omega))) | ((with_reducible refine Below.setCell ?_ ?_ _); rotate_left; (next => ((try dsimp only); (try simp only [World.size_alloc, World.size_setCell, World.size_drew]); omega))) | (with_reducible refine Below.drew ?_) | (refine Below.trans ?_ (by assumption))))⟩
      · by_cases c3 : 8 < Y
        · obtain rfl : 3 = n := by rw [← h, if_pos (by omega)]
          have d1 : ((X : Int) == 72) = true := by rw [c1]; rfl
          have d2 : ((X : Int) != 72) = false := by rw [c1]; rfl
          have d3 : ¬ (Y : Int) < 1 := by omega
          have d4 : (8 : Int) < Y := by omega
          clear h h0 c0 c1 c2
          go_enter Try.func33, Try.ntmps33
          go_wp2_with fail
          refine bodyPost_ret (v := .tuple #[.agg #[.string ⟨#[]⟩, .int .i64 0, .int .i64 0], .int .i64 3]) (by simp [results, Try.f33, go_sem, ↓IntWalk.iteOmega, *]) rfl ?_
          exact ⟨rfl, (by repeat (first | (with_reducible exact Below.refl _ _) | ((with_reducible refine Below.alloc ?_ ?_ _); rotate_left; (next => ((try dsimp only); (try simp only [World.size_alloc, World.size_setCell, World.size_drew]); omega))) | ((with_reducible refine Below.setCell ?_ ?_ _); rotate_left; (next => ((try dsimp only); (try simp only [World.size_alloc, World.size_setCell, World.size_drew]); omega))) | (with_reducible refine Below.drew ?_) | (refine Below.trans ?_ (by assumption))))⟩
        · rw [if_neg (by omega)] at h
          have d1 : ((X : Int) == 72) = true := by rw [c1]; rfl
          have d2 : ((X : Int) != 72) = false := by rw [c1]; rfl
          have d3 : ¬ (Y : Int) < 1 := by omega
          have d4 : ¬ (8 : Int) < Y := by omega
          have w14 : IntKind.i64.wrap (14 + (Y : Int)) = ((14 + Y : Nat) : Int) := IntWalk.i64_in _ (by omega)
          by_cases c4 : s.size < 14 + Y
          · obtain rfl : 8 = n := by rw [← h, if_pos c4]
            have d5 : (s.size : Int) < ((14 + Y : Nat) : Int) := by omega
            clear h h0 c0 c1 c2
            go_enter Try.func33, Try.ntmps33
            go_wp2_with fail
            refine bodyPost_ret (v := .tuple #[.agg #[.string ⟨#[]⟩, .int .i64 0, .int .i64 0], .int .i64 8]) (by simp [results, Try.f33, go_sem, ↓IntWalk.iteOmega, *]) rfl ?_
            exact ⟨rfl, (by repeat (first | (with_reducible exact Below.refl _ _) | ((with_reducible refine Below.alloc ?_ ?_ _); rotate_left; (next => ((try dsimp only); (try simp only [World.size_alloc, World.size_setCell, World.size_drew]); omega))) | ((with_reducible refine Below.setCell ?_ ?_ _); rotate_left; (next => ((try dsimp only); (try simp only [World.size_alloc, World.size_setCell, World.size_drew]); omega))) | (with_reducible refine Below.drew ?_) | (refine Below.trans ?_ (by assumption))))⟩
          · rw [if_neg c4] at h
            have d5 : ¬ (s.size : Int) < ((14 + Y : Nat) : Int) := by omega
            by_cases c5 : 14 + Y < s.size
            · obtain rfl : 3 = n := by rw [← h, if_pos c5]
              have d6 : ((14 + Y : Nat) : Int) < (s.size : Int) := by omega
              clear h h0 c0 c1 c2
              go_enter Try.func33, Try.ntmps33
              go_wp2_with fail
              refine bodyPost_ret (v := .tuple #[.agg #[.string ⟨#[]⟩, .int .i64 0, .int .i64 0], .int .i64 3]) (by simp [results, Try.f33, go_sem, ↓IntWalk.iteOmega, *]) rfl ?_
              exact ⟨rfl, (by repeat (first | (with_reducible exact Below.refl _ _) | ((with_reducible refine Below.alloc ?_ ?_ _); rotate_left; (next => ((try dsimp only); (try simp only [World.size_alloc, World.size_setCell, World.size_drew]); omega))) | ((with_reducible refine Below.setCell ?_ ?_ _); rotate_left; (next => ((try dsimp only); (try simp only [World.size_alloc, World.size_setCell, World.size_drew]); omega))) | (with_reducible refine Below.drew ?_) | (refine Below.trans ?_ (by assumption))))⟩
            · rw [if_neg c5] at h
              have d6 : ¬ ((14 + Y : Nat) : Int) < (s.size : Int) := by omega
              have w10 : IntKind.i64.wrap (10 + (Y : Int)) = ((10 + Y : Nat) : Int) := IntWalk.i64_in _ (by omega)
              obtain ⟨p, hp⟩ : ∃ p, crcOf ((byts s).take (10 + Y)) = p := ⟨_, rfl⟩
              obtain ⟨q, hq⟩ : ∃ q, numL ((byts s).drop (10 + Y)) = q := ⟨_, rfl⟩
              rw [hp, hq] at h
              have hpq : ¬ p = q := fun e => h0 (by rw [← h, if_neg (by simpa using e)])
              rw [if_pos hpq] at h
              subst h
              have dpq : ((p : Int) != (q : Int)) = true := by simp; omega
              have dpq' : ((p : Int) == (q : Int)) = false := by simp; omega
              have z1 : (s.extract 0 (10 + Y)).size = 10 + Y := by rw [ByteArray.size_extract]; omega
              have z2 : (s.extract (10 + Y) s.size).size = 4 := by rw [ByteArray.size_extract]; omega
              have C1 := Lib.hid (fun w' => crc_ok (s.extract 0 (10 + Y)) p w' (by omega) (by rw [byts_ext, List.drop_zero]; exact hp))
              have N1 := fun w' => number_ok (s.extract (10 + Y) s.size) w' (by omega) (by omega)
              have e2 : byts (s.extract (10 + Y) s.size) = (byts s).drop (10 + Y) := by rw [byts_ext, List.take_of_length_le (by rw [byts_len]; omega)]
              rw [e2, hq] at N1
              have NN := Lib.hid N1
              have d7 : ((10 + Y : Nat) : Int) ≤ s.size := by omega
              have d8 : (0 : Int) ≤ ((10 + Y : Nat) : Int) := by omega
              clear h0 c0 c1 c2 N1 e2 hp hq hpq
              go_enter Try.func33, Try.ntmps33
              go_wp2_with fail
              refine (C1.out _).mono ?_
              rintro e w1 ⟨rfl, hb1⟩
              have z1 := hb1.size
              have c1 := Below.cells hb1
              have f1 := Below.frozens hb1
              try simp only [World.size_alloc, World.size_setCell, World.size_drew] at z1 c1 f1
              go_wp2_with fail
              refine (NN.out _).mono ?_
              rintro e w2 ⟨rfl, hb2⟩
              have z2 := hb2.size
              have c2 := Below.cells hb2
              have f2 := Below.frozens hb2
              try simp only [World.size_alloc, World.size_setCell, World.size_drew] at z2 c2 f2
              go_wp2_with fail
              refine bodyPost_ret (v := .tuple #[.agg #[.string ⟨#[]⟩, .int .i64 0, .int .i64 0], .int .i64 9]) (by simp [results, Try.f33, go_sem, ↓IntWalk.iteOmega, *]) rfl ?_
              exact ⟨rfl, (by repeat (first | (with_reducible exact Below.refl _ _) | ((with_reducible refine Below.alloc ?_ ?_ _); rotate_left; (next => ((try dsimp only); (try simp only [World.size_alloc, World.size_setCell, World.size_drew]); omega))) | ((with_reducible refine Below.setCell ?_ ?_ _); rotate_left; (next => ((try dsimp only); (try simp only [World.size_alloc, World.size_setCell, World.size_drew]); omega))) | (with_reducible refine Below.drew ?_) | ((with_reducible refine Below.trans ?_ (Below.mono hb2 ?_)); rotate_left; (next => ((try dsimp only); (try simp only [World.size_alloc, World.size_setCell, World.size_drew]); omega))) | ((with_reducible refine Below.trans ?_ (Below.mono hb1 ?_)); rotate_left; (next => ((try dsimp only); (try simp only [World.size_alloc, World.size_setCell, World.size_drew]); omega)))))⟩
    · obtain rfl : 3 = n := by rw [← h, if_pos (by omega)]
      have d1 : ((X : Int) == 72) = false := by simp; omega
      have d2 : ((X : Int) != 72) = true := by simp; omega
      clear h h0 c0 c1
      go_enter Try.func33, Try.ntmps33
      go_wp2_with fail
      refine bodyPost_ret (v := .tuple #[.agg #[.string ⟨#[]⟩, .int .i64 0, .int .i64 0], .int .i64 3]) (by simp [results, Try.f33, go_sem, ↓IntWalk.iteOmega, *]) rfl ?_
      exact ⟨rfl, (by repeat (first | (with_reducible exact Below.refl _ _) | ((with_reducible refine Below.alloc ?_ ?_ _); rotate_left; (next => ((try dsimp only); (try simp only [World.size_alloc, World.size_setCell, World.size_drew]); omega))) | ((with_reducible refine Below.setCell ?_ ?_ _); rotate_left; (next => ((try dsimp only); (try simp only [World.size_alloc, World.size_setCell, World.size_drew]); omega))) | (with_reducible refine Below.drew ?_) | (refine Below.trans ?_ (by assumption))))⟩
end Go.Proofs.Ytlnagfmaiabhaaa

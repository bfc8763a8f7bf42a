/-
  The walk of root.Power.
-/
import Derived.Test.YtlnagfmaiabhaaaW3
set_option linter.unusedSimpArgs false
set_option linter.unusedVariables false
namespace Go.Proofs.Ytlnagfmaiabhaaa
open Go.RowKit

set_option maxHeartbeats 2000000 in
theorem power_ok (a n p : Int) {ah al : Int} (ha : Wd a ah al) (h0 : 0 ≤ n) (h1 : n ≤ 127) (hp : a ^ n.toNat = p) (hall : ∀ i : Nat, i ≤ n.toNat → U128 (a ^ i)) (w : World) :
    Calls Try.prog 54 #[.agg #[.int .u64 ah, .int .u64 al], .int .i64 n] w fun e w' =>
      e = .returned (.tuple #[.agg #[.int .u64 (hi p), .int .u64 (lo p)], .int .i64 0]) ∧ Below w.heap.size w w' := by
  obtain ⟨N, rfl⟩ := Int.eq_ofNat_of_zero_le h0
  rw [show ((N : Int)).toNat = N from rfl] at hp hall
  have Hall := Lib.hid hall
  have Hp := Lib.hid hp
  clear hall hp
  have hi1 : hi 1 = 0 := by decide
  have lo1 : lo 1 = 1 := by decide
  have qa := alloc_cells
  have qf := alloc_frozens
  go_enter Try.func54, Try.ntmps54
  go_wp2_with fail
  go_loopw [1, 7] (fun v _ wr => ∃ k : Nat, k ≤ N ∧ v = .int .i64 ((N : Int) - k) ∧ wr.cell? ⟨w.heap.size, 0, none⟩ = some (.int .u64 ah) ∧ wr.cell? ⟨w.heap.size, 1, none⟩ = some (.int .u64 al) ∧
      wr.cell? ⟨w.heap.size + 1 + 1, 0, none⟩ = some (.int .u64 (hi (a ^ k))) ∧ wr.cell? ⟨w.heap.size + 1 + 1, 1, none⟩ = some (.int .u64 (lo (a ^ k))) ∧
      wr.frozen? ⟨w.heap.size + 1 + 1, 0, none⟩ = false ∧ wr.frozen? ⟨w.heap.size + 1 + 1, 1, none⟩ = false ∧
      wr.cell? ⟨w.heap.size + 1, 0, none⟩ = some (.int .u64 0) ∧ wr.cell? ⟨w.heap.size + 1, 1, none⟩ = some (.int .u64 0) ∧
      wr.frozen? ⟨w.heap.size + 1, 0, none⟩ = false ∧ wr.frozen? ⟨w.heap.size + 1, 1, none⟩ = false ∧
      w.heap.size + 3 ≤ wr.heap.size ∧ Below w.heap.size w wr)
    (fun v _ _ => (intOf v).toNat)
  case atStart => exact ⟨0, Nat.zero_le _, by simp, by simp [go_sem], by simp [go_sem], by simp [go_sem, hi1], by simp [go_sem, lo1], by simp [go_sem], by simp [go_sem], by simp [go_sem], by simp [go_sem], by simp [go_sem], by simp [go_sem], by simp, (by repeat (first | (with_reducible exact Below.refl _ _) | ((with_reducible refine Below.alloc ?_ ?_ _); rotate_left; (next => ((try dsimp only); (try simp only [World.size_alloc, World.size_setCell, World.size_drew]); omega))) | ((with_reducible refine Below.setCell ?_ ?_ _); rotate_left; (next => ((try dsimp only); (try simp only [World.size_alloc, World.size_setCell, World.size_drew]); omega))) | (with_reducible refine Below.drew ?_) | (refine Below.trans ?_ (by assumption))))⟩
  case round =>
    obtain ⟨k, hk, rfl, c0, c1, c2, c3, f2, f3, c4, c5, f4, f5, sz, bel⟩ := hrel
    by_cases hlt : k < N
    · have pos : (0 : Int) < (N : Int) - k := by omega
      go_wp2_with fail
      refine (times_ok (a ^ k) a (a ^ (k + 1)) (Wd.mk (Hall.out k hk)) ha (Int.pow_succ _ _).symm (Hall.out (k + 1) (by omega)) _).mono ?_
      rintro e w1 ⟨rfl, hb1⟩
      have z1 := hb1.size
      have c1 := Below.cells hb1
      have f1 := Below.frozens hb1
      try simp only [World.size_alloc, World.size_setCell, World.size_drew] at z1 c1 f1
      go_wp2_with fail
      go_roundw
      case rel =>
        refine ⟨k + 1, by omega, ?_, ?_, ?_, ?_, ?_, ?_, ?_, ?_, ?_, ?_, ?_, ?_, ?_⟩
        all_goals first | (congr 1; omega) | (simp [go_sem, ↓IntWalk.iteOmega, *]; done) | (simp only [World.size_setCell]; omega) | exact (by repeat (first | (with_reducible exact Below.refl _ _) | ((with_reducible refine Below.alloc ?_ ?_ _); rotate_left; (next => ((try dsimp only); (try simp only [World.size_alloc, World.size_setCell, World.size_drew]); omega))) | ((with_reducible refine Below.setCell ?_ ?_ _); rotate_left; (next => ((try dsimp only); (try simp only [World.size_alloc, World.size_setCell, World.size_drew]); omega))) | (with_reducible refine Below.drew ?_) | ((with_reducible refine Below.trans ?_ (Below.mono hb1 ?_)); rotate_left; (next => ((try dsimp only); (try simp only [World.size_alloc, World.size_setCell, World.size_drew]); omega))) | (with_reducible exact bel)))
      case measure => simp [intOf]; omega
    · obtain rfl : k = N := by omega
      rw [Hp.out] at c2 c3
      have pos : ¬ (0 : Int) < (k : Int) - k := by omega
      go_wp2_with fail
      refine bodyPost_ret (v := .tuple #[.agg #[.int .u64 (hi p), .int .u64 (lo p)], .int .i64 0]) (by simp [results, Try.results54, go_sem, ↓IntWalk.iteOmega, *]) rfl ?_
      exact ⟨rfl, (by repeat (first | (with_reducible exact Below.refl _ _) | ((with_reducible refine Below.alloc ?_ ?_ _); rotate_left; (next => ((try dsimp only); (try simp only [World.size_alloc, World.size_setCell, World.size_drew]); omega))) | ((with_reducible refine Below.setCell ?_ ?_ _); rotate_left; (next => ((try dsimp only); (try simp only [World.size_alloc, World.size_setCell, World.size_drew]); omega))) | (with_reducible refine Below.drew ?_) | (with_reducible exact bel)))⟩
end Go.Proofs.Ytlnagfmaiabhaaa

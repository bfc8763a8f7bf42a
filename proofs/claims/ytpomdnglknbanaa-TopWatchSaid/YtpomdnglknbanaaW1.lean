
/-
  The walks of package wide: Add, Sub; and of the statements' own half.
-/
import Derived.Test.YtpomdnglknbanaaRows
import Derived.Test.YtpomdnglknbanaaW0
import Derived.WalkKit
import Derived.WalkSpells
import Derived.WalkLawsBesides
import Derived.Laws.Externs
import Derived.Shelf.Spec.BitsCarry
set_option linter.unusedSimpArgs false
set_option linter.unusedVariables false
namespace Go.Proofs.Ytpomdnglknbanaa
open Go.RowKit

theorem add64_run (x y c s k : Int) (hx : U64 x) (hy : U64 y) (hc0 : 0 ≤ c) (hc : c ≤ 1) (hs : U64 s) (h : x + y + c = k * 18446744073709551616 + s) (w : World) :
    (callFunc 134 #[.int .u64 x, .int .u64 y, .int .u64 c]).run Try.prog w = .ok (.value (.tuple #[.int .u64 s, .int .u64 k])) w := by
  rw [run_callFunc_extern (P := Try.prog) (fn := Try.f134) Try.func134 (by kernel_rfl) (by kernel_rfl) (by kernel_rfl) (e := add64Entry) (by kernel_rfl), run_add64 x y c hx.1 hy.1 hc0 hc]
  simp only [Result.andThen]
  have e1 : (x + y + c) % 18446744073709551616 = s := by unfold U64 at *; omega
  have e2 : (x + y + c) / 18446744073709551616 = k := by unfold U64 at *; omega
  rw [e1, e2]

set_option maxHeartbeats 400000 in
theorem add_ok (a b x : Int) {ah al bh bl : Int} (ha : Wd a ah al) (hb : Wd b bh bl) (hx : a + b = x) (h : U128 x) (w : World) :
    Calls Try.prog 89 #[.agg #[.int .u64 ah, .int .u64 al], .agg #[.int .u64 bh, .int .u64 bl]] w fun e w' =>
      e = .returned (.tuple #[.agg #[.int .u64 (hi x), .int .u64 (lo x)], .int .i64 0]) ∧ Below w.heap.size w w' := by
  subst hx
  obtain ⟨ha, rfl, rfl⟩ := ha
  obtain ⟨hb, rfl, rfl⟩ := hb
  obtain ⟨c, c0, c1, e1, e2⟩ := sum_halves ha hb h
  have r1 := add64_run _ _ _ _ _ ha.lo hb.lo (by omega) (by omega) h.lo e1
  have r2 := add64_run _ _ _ _ _ ha.hi hb.hi c0 c1 h.hi e2
  clear e1 e2 ha hb h
  go_enter Try.func89, Try.ntmps89
  go_wp2
  refine bodyPost_ret (v := .tuple #[.agg #[.int .u64 (hi (a + b)), .int .u64 (lo (a + b))], .int .i64 0]) (by simp [results, Try.results89, go_sem]) rfl ?_
  exact ⟨rfl, (by repeat (first | (with_reducible exact Below.refl _ _) | ((with_reducible refine Below.alloc ?_ ?_ _); rotate_left; (next => ((try dsimp only); (try simp only [World.size_alloc, World.size_setCell, World.size_drew]); omega))) | ((with_reducible refine Below.setCell ?_ ?_ _); rotate_left; (next => ((try dsimp only); (try simp only [World.size_alloc, World.size_setCell, World.size_drew]); omega))) | (with_reducible refine Below.drew ?_) | (refine Below.trans ?_ (by assumption))))⟩

set_option maxHeartbeats 400000 in
theorem add_large (a b : Int) {ah al bh bl : Int} (ha : Wd a ah al) (hb : Wd b bh bl) (h : ¬ U128 (a + b)) (w : World) :
    Calls Try.prog 89 #[.agg #[.int .u64 ah, .int .u64 al], .agg #[.int .u64 bh, .int .u64 bl]] w fun e w' =>
      e = .returned (.tuple #[.agg #[.int .u64 0, .int .u64 0], .int .i64 2]) ∧ Below w.heap.size w w' := by
  obtain ⟨ha, rfl, rfl⟩ := ha
  obtain ⟨hb, rfl, rfl⟩ := hb
  obtain ⟨c, s, c0, c1, hs, e1, e2⟩ := sum_large ha hb h
  have r1 := add64_run _ _ _ _ _ ha.lo hb.lo (by omega) (by omega) (lo_u64 _) e1
  have r2 := add64_run _ _ _ _ _ ha.hi hb.hi c0 c1 hs e2
  clear e1 e2 ha hb h hs
  go_enter Try.func89, Try.ntmps89
  go_wp2
  refine bodyPost_ret (v := .tuple #[.agg #[.int .u64 0, .int .u64 0], .int .i64 2]) (by simp [results, Try.results89, go_sem]) rfl ?_
  exact ⟨rfl, (by repeat (first | (with_reducible exact Below.refl _ _) | ((with_reducible refine Below.alloc ?_ ?_ _); rotate_left; (next => ((try dsimp only); (try simp only [World.size_alloc, World.size_setCell, World.size_drew]); omega))) | ((with_reducible refine Below.setCell ?_ ?_ _); rotate_left; (next => ((try dsimp only); (try simp only [World.size_alloc, World.size_setCell, World.size_drew]); omega))) | (with_reducible refine Below.drew ?_) | (refine Below.trans ?_ (by assumption))))⟩

end Go.Proofs.Ytpomdnglknbanaa

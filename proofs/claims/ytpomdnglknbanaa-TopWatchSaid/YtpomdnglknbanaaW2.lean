
/-
  The walks of wide.Cmp, Len, Up, Shl, Shr, prod.Mul, and of the statements' own num, short, Within.
-/
import Derived.Test.YtpomdnglknbanaaW1
import Derived.Test.YtpomdnglknbanaaQT
import Derived.Test.YtpomdnglknbanaaCm
import Derived.Test.YtpomdnglknbanaaShelf
import Derived.Test.YtpomdnglknbanaaWS
import Derived.Test.YtpomdnglknbanaaWB
import Derived.Lib.Hide
set_option linter.unusedSimpArgs false
set_option linter.unusedVariables false
namespace Go.Proofs.Ytpomdnglknbanaa
open Go.RowKit

set_option maxHeartbeats 400000 in
theorem cmp_eq (a : Int) {ah al bh bl : Int} (ha : Wd a ah al) (hb : Wd a bh bl) (w : World) :
    Calls Try.prog 139 #[.agg #[.int .u64 ah, .int .u64 al], .agg #[.int .u64 bh, .int .u64 bl]] w fun e w' =>
      e = .returned (.int .i64 0) ∧ Below w.heap.size w w' := by
  obtain ⟨ha, rfl, rfl⟩ := ha
  obtain ⟨hb, rfl, rfl⟩ := hb
  clear ha hb
  go_enter Try.func139, Try.ntmps139
  go_wp2
  go_ret
  exact ⟨rfl, (by repeat (first | (with_reducible exact Below.refl _ _) | ((with_reducible refine Below.alloc ?_ ?_ _); rotate_left; (next => ((try dsimp only); (try simp only [World.size_alloc, World.size_setCell, World.size_drew]); omega))) | ((with_reducible refine Below.setCell ?_ ?_ _); rotate_left; (next => ((try dsimp only); (try simp only [World.size_alloc, World.size_setCell, World.size_drew]); omega))) | (with_reducible refine Below.drew ?_) | (refine Below.trans ?_ (by assumption))))⟩

set_option maxHeartbeats 400000 in
theorem cmp_lt (a b : Int) {ah al bh bl : Int} (ha : Wd a ah al) (hb : Wd b bh bl) (h : a < b) (w : World) :
    Calls Try.prog 139 #[.agg #[.int .u64 ah, .int .u64 al], .agg #[.int .u64 bh, .int .u64 bl]] w fun e w' =>
      e = .returned (.int .i64 (-1)) ∧ Below w.heap.size w w' := by
  obtain ⟨ha, rfl, rfl⟩ := ha
  obtain ⟨hb, rfl, rfl⟩ := hb
  by_cases c : hi a < hi b
  · have d : ¬ hi a = hi b := by omega
    clear ha hb h
    go_enter Try.func139, Try.ntmps139
    go_wp2
    go_ret
    exact ⟨rfl, (by repeat (first | (with_reducible exact Below.refl _ _) | ((with_reducible refine Below.alloc ?_ ?_ _); rotate_left; (next => ((try dsimp only); (try simp only [World.size_alloc, World.size_setCell, World.size_drew]); omega))) | ((with_reducible refine Below.setCell ?_ ?_ _); rotate_left; (next => ((try dsimp only); (try simp only [World.size_alloc, World.size_setCell, World.size_drew]); omega))) | (with_reducible refine Below.drew ?_) | (refine Below.trans ?_ (by assumption))))⟩
  · have d : hi b = hi a := by unfold hi U128 at *; omega
    have c' : lo a < lo b := by unfold hi lo U128 at *; omega
    have c'' : ¬ lo a = lo b := by omega
    have c3 : ¬ hi a < hi a := by omega
    rw [d]
    clear ha hb h c d
    go_enter Try.func139, Try.ntmps139
    go_wp2
    go_ret
    exact ⟨rfl, (by repeat (first | (with_reducible exact Below.refl _ _) | ((with_reducible refine Below.alloc ?_ ?_ _); rotate_left; (next => ((try dsimp only); (try simp only [World.size_alloc, World.size_setCell, World.size_drew]); omega))) | ((with_reducible refine Below.setCell ?_ ?_ _); rotate_left; (next => ((try dsimp only); (try simp only [World.size_alloc, World.size_setCell, World.size_drew]); omega))) | (with_reducible refine Below.drew ?_) | (refine Below.trans ?_ (by assumption))))⟩

set_option maxHeartbeats 400000 in
theorem cmp_gt (a b : Int) {ah al bh bl : Int} (ha : Wd a ah al) (hb : Wd b bh bl) (h : b < a) (w : World) :
    Calls Try.prog 139 #[.agg #[.int .u64 ah, .int .u64 al], .agg #[.int .u64 bh, .int .u64 bl]] w fun e w' =>
      e = .returned (.int .i64 1) ∧ Below w.heap.size w w' := by
  obtain ⟨ha, rfl, rfl⟩ := ha
  obtain ⟨hb, rfl, rfl⟩ := hb
  by_cases c : hi b < hi a
  · have d : ¬ hi a = hi b := by omega
    have c' : ¬ hi a < hi b := by omega
    clear ha hb h
    go_enter Try.func139, Try.ntmps139
    go_wp2
    go_ret
    exact ⟨rfl, (by repeat (first | (with_reducible exact Below.refl _ _) | ((with_reducible refine Below.alloc ?_ ?_ _); rotate_left; (next => ((try dsimp only); (try simp only [World.size_alloc, World.size_setCell, World.size_drew]); omega))) | ((with_reducible refine Below.setCell ?_ ?_ _); rotate_left; (next => ((try dsimp only); (try simp only [World.size_alloc, World.size_setCell, World.size_drew]); omega))) | (with_reducible refine Below.drew ?_) | (refine Below.trans ?_ (by assumption))))⟩
  · have d : hi b = hi a := by unfold hi U128 at *; omega
    have c' : ¬ lo a < lo b := by unfold hi lo U128 at *; omega
    have c'' : ¬ lo a = lo b := by unfold hi lo U128 at *; omega
    have c3 : ¬ hi a < hi a := by omega
    rw [d]
    clear ha hb h c d
    go_enter Try.func139, Try.ntmps139
    go_wp2
    go_ret
    exact ⟨rfl, (by repeat (first | (with_reducible exact Below.refl _ _) | ((with_reducible refine Below.alloc ?_ ?_ _); rotate_left; (next => ((try dsimp only); (try simp only [World.size_alloc, World.size_setCell, World.size_drew]); omega))) | ((with_reducible refine Below.setCell ?_ ?_ _); rotate_left; (next => ((try dsimp only); (try simp only [World.size_alloc, World.size_setCell, World.size_drew]); omega))) | (with_reducible refine Below.drew ?_) | (refine Below.trans ?_ (by assumption))))⟩

set_option maxHeartbeats 400000 in
theorem len_any (a : Int) {ah al : Int} (ha : Wd a ah al) (w : World) :
    Calls Try.prog 138 #[.agg #[.int .u64 ah, .int .u64 al]] w fun e w' =>
      e = .returned (.int .i64 (blen a)) ∧ Below w.heap.size w w' := by
  obtain ⟨ha, rfl, rfl⟩ := ha
  have l1 := ha.lo
  have l2 := ha.hi
  unfold U64 at l1 l2
  have b1 := Lib.bitLen_le (hi a).toNat 64 (by omega) (by omega)
  by_cases c : 0 < hi a
  · rw [← blen_hi c]
    generalize hk : Lib.bitLen (hi a).toNat = k at b1
    have Hk := Lib.hid hk
    clear hk
    go_enter Try.func138, Try.ntmps138
    go_wp2_with (go_at_call 157; refine (Try.bits_Len64 _ _ (by omega) (by omega)).mono ?_; rintro e w' ⟨rfl, rfl⟩; rw [Hk.out])
    go_ret
    exact ⟨rfl, (by repeat (first | (with_reducible exact Below.refl _ _) | ((with_reducible refine Below.alloc ?_ ?_ _); rotate_left; (next => ((try dsimp only); (try simp only [World.size_alloc, World.size_setCell, World.size_drew]); omega))) | ((with_reducible refine Below.setCell ?_ ?_ _); rotate_left; (next => ((try dsimp only); (try simp only [World.size_alloc, World.size_setCell, World.size_drew]); omega))) | (with_reducible refine Below.drew ?_) | (refine Below.trans ?_ (by assumption))))⟩
  · rw [← blen_lo c]
    clear b1
    go_enter Try.func138, Try.ntmps138
    go_wp2_with (go_at_call 157; refine (Try.bits_Len64 _ _ (by omega) (by omega)).mono ?_; rintro e w' ⟨rfl, rfl⟩)
    go_ret
    exact ⟨rfl, (by repeat (first | (with_reducible exact Below.refl _ _) | ((with_reducible refine Below.alloc ?_ ?_ _); rotate_left; (next => ((try dsimp only); (try simp only [World.size_alloc, World.size_setCell, World.size_drew]); omega))) | ((with_reducible refine Below.setCell ?_ ?_ _); rotate_left; (next => ((try dsimp only); (try simp only [World.size_alloc, World.size_setCell, World.size_drew]); omega))) | (with_reducible refine Below.drew ?_) | (refine Below.trans ?_ (by assumption))))⟩

set_option maxHeartbeats 400000 in
theorem mul_any (x y z : Int) (w : World) (hx : U64 x) (hy : U64 y) (hz : x * y = z) :
    Calls Try.prog 102 #[.int .u64 x, .int .u64 y] w fun e w' =>
      e = .returned (.agg #[.int .u64 (hi z), .int .u64 (lo z)]) ∧ Below w.heap.size w w' := by
  subst hz
  obtain ⟨X, rfl⟩ := Int.eq_ofNat_of_zero_le hx.1
  obtain ⟨Y, rfl⟩ := Int.eq_ofNat_of_zero_le hy.1
  have e1 : hi ((X : Int) * Y) = ((X * Y / 18446744073709551616 : Nat) : Int) := by unfold hi; rw [← Int.natCast_mul]; omega
  have e2 : lo ((X : Int) * Y) = ((X * Y % 18446744073709551616 : Nat) : Int) := by unfold lo; rw [← Int.natCast_mul]; omega
  rw [e1, e2]
  generalize hp : X * Y / 18446744073709551616 = p
  generalize hq : X * Y % 18446744073709551616 = q
  have Hp := Lib.hid hp
  have Hq := Lib.hid hq
  clear e1 e2 hp hq
  have bx : X < 18446744073709551616 := by unfold U64 at hx; omega
  have by' : Y < 18446744073709551616 := by unfold U64 at hy; omega
  go_enter Try.func102, Try.ntmps102
  go_wp2_with (go_at_call 137; refine (Try.bits_Mul64 _ _ bx by' _).mono ?_; rintro e w' ⟨rfl, rfl⟩; rw [Hp.out, Hq.out])
  refine bodyPost_ret (v := .agg #[.int .u64 (p : Int), .int .u64 (q : Int)]) (by simp [results, Try.results102, go_sem]) rfl ?_
  exact ⟨rfl, (by repeat (first | (with_reducible exact Below.refl _ _) | ((with_reducible refine Below.alloc ?_ ?_ _); rotate_left; (next => ((try dsimp only); (try simp only [World.size_alloc, World.size_setCell, World.size_drew]); omega))) | ((with_reducible refine Below.setCell ?_ ?_ _); rotate_left; (next => ((try dsimp only); (try simp only [World.size_alloc, World.size_setCell, World.size_drew]); omega))) | (with_reducible refine Below.drew ?_) | (refine Below.trans ?_ (by assumption))))⟩

set_option maxHeartbeats 400000 in
theorem up_any (a n : Int) {ah al : Int} (ha : Wd a ah al) (w : World) (h : 0 ≤ n) (h1 : n ≤ 127) :
    Calls Try.prog 140 #[.agg #[.int .u64 ah, .int .u64 al], .int .i64 n] w fun e w' =>
      e = .returned (.agg #[.int .u64 (hi (up a n)), .int .u64 (lo (up a n))]) ∧ Below w.heap.size w w' := by
  obtain ⟨ha, rfl, rfl⟩ := ha
  by_cases c : 64 ≤ n
  · obtain ⟨e1, e2⟩ := up_big_halves ha c
    rw [← e1, ← e2]
    clear e1 e2 ha
    go_enter Try.func140, Try.ntmps140
    go_wp2
    refine bodyPost_ret (v := .agg #[.int .u64 (IntKind.u64.wrap (lo a * 2 ^ (n - 64).toNat)), .int .u64 0]) (by simp [results, Try.results140, go_sem]) rfl ?_
    exact ⟨rfl, (by repeat (first | (with_reducible exact Below.refl _ _) | ((with_reducible refine Below.alloc ?_ ?_ _); rotate_left; (next => ((try dsimp only); (try simp only [World.size_alloc, World.size_setCell, World.size_drew]); omega))) | ((with_reducible refine Below.setCell ?_ ?_ _); rotate_left; (next => ((try dsimp only); (try simp only [World.size_alloc, World.size_setCell, World.size_drew]); omega))) | (with_reducible refine Below.drew ?_) | (refine Below.trans ?_ (by assumption))))⟩
  · obtain ⟨e1, e2⟩ := up_small_halves ha h (by omega)
    rw [← e1, ← e2]
    clear e1 e2 ha
    go_enter Try.func140, Try.ntmps140
    go_wp2
    refine wp_region_quiet_tail 15 (fun w' => w' = World.drew _) (by kernel_rfl) (by kernel_rfl) rfl ?_
    simp only [List.take_succ_cons, List.take_zero, List.drop_succ_cons, List.drop_zero]
    repeat (first | go_big_quiet_step (fail) | quiet_step (fail))
    refine wpQuiet_nil ?_
    rintro _ rfl
    go_wp2
    refine bodyPost_ret (v := .agg #[.int .u64 (bits .or .u64 (IntKind.u64.wrap (hi a * 2 ^ n.toNat)) (lo a / 2 ^ (64 - n).toNat)), .int .u64 (IntKind.u64.wrap (lo a * 2 ^ n.toNat))]) (by simp [results, Try.results140, go_sem]) rfl ?_
    exact ⟨rfl, (by repeat (first | (with_reducible exact Below.refl _ _) | ((with_reducible refine Below.alloc ?_ ?_ _); rotate_left; (next => ((try dsimp only); (try simp only [World.size_alloc, World.size_setCell, World.size_drew]); omega))) | ((with_reducible refine Below.setCell ?_ ?_ _); rotate_left; (next => ((try dsimp only); (try simp only [World.size_alloc, World.size_setCell, World.size_drew]); omega))) | (with_reducible refine Below.drew ?_) | (refine Below.trans ?_ (by assumption))))⟩

end Go.Proofs.Ytpomdnglknbanaa

/-
  (*Town).Join of a name that is not watched.
-/
import Derived.Test.YtpomdnglknbanaaTi
set_option linter.unusedSimpArgs false
set_option linter.unusedVariables false
namespace Go.Proofs.Ytpomdnglknbanaa
open Go Go.RowKit
variable {t : Nat} {S : TSt} {f : Nat → Prop} {i : Nat}
set_option maxRecDepth 100000 in
set_option maxHeartbeats 8000000 in
theorem tjoin_none (w : World) (id : ByteArray) (th : Int) (h : TRep w t S f) (hi : i < S.n) (hd : S.dead i = false) (ok : NOK (S.nd i)) (ht : 1 ≤ th ∧ th ≤ 60) (hid : has (S.nd i).peers id = false) :
    Calls Try.prog 58 #[.pointer (some ⟨t, 0, none⟩), .int .i64 i, .string id, .int .i64 th] w fun e w' => e = .returned (.tuple #[.slice none 0 0, .int .i64 4]) ∧ Below w.heap.size w w' := by
  obtain ⟨c, ga, gn, gd, ca, cn, cd, wv, bs, h⟩ := h
  obtain ⟨_, k1, k2, _, _⟩ := h.cells
  obtain ⟨_, p1, p2, nr, _⟩ := h.parts hi
  rw [hd] at p2
  have HLv := Lib.hid (njoin_none (bs i) (S.nd i) _ id th w nr ok ht hid)
  obtain ⟨n, hn⟩ : ∃ n, S.n = n := ⟨_, rfl⟩
  rw [hn] at k1 k2 hi
  have i0 : ¬ (i : Int) < 0 := by omega
  have i1 : (i : Int) < n := by omega
  have i2 : decide ((n : Int) ≤ i) = false := by simp; omega
  clear h nr ok hid hd hn ht
  go_enter Try.func58, Try.ntmps58
  go_wp2_with fail
  refine HLv.out.mono ?_
  rintro e w1 ⟨rfl, hb1⟩
  go_wp2_with fail
  go_ret2
  exact ⟨rfl, hb1⟩
end Go.Proofs.Ytpomdnglknbanaa

import Derived.Test.YtlaeibpanipefaaRc
import Derived.Test.YtlaeibpanipefaaFar
set_option linter.unusedSimpArgs false
set_option linter.unusedVariables false
namespace Go.Proofs.Ytlaeibpanipefaa
open Go.RowKit

theorem kth_rank (n : Nat) (p q : Int) (h0 : 0 < n) (hq : 1 ≤ q) (hp : 0 ≤ p ∧ p ≤ q) : ∃ K : Nat, max 1 (((n : Int) * p + q - 1) / q) = (K : Int) + 1 ∧ K < n ∧ (n : Int) * p ≤ ((K : Int) + 1) * q ∧ ((K : Int) = 0 ∨ (K : Int) * q < (n : Int) * p) := by
  have m1 : 0 ≤ (n : Int) * p := Int.mul_nonneg (by omega) hp.1
  have m2 : (n : Int) * p ≤ n * q := Int.mul_le_mul_of_nonneg_left hp.2 (by omega)
  obtain ⟨D, hD⟩ : ∃ D, ((n : Int) * p + q - 1) / q = D := ⟨_, rfl⟩
  have e := Int.emod_add_mul_ediv ((n : Int) * p + q - 1) q
  have a1 := Int.emod_nonneg ((n : Int) * p + q - 1) (show q ≠ 0 by omega)
  have a2 := Int.emod_lt_of_pos ((n : Int) * p + q - 1) (show 0 < q by omega)
  rw [hD] at e ⊢
  have d0 : 0 ≤ D := by rw [← hD]; exact Int.ediv_nonneg (by omega) (by omega)
  have dn : D ≤ n := by
    rcases Int.lt_or_le n D with h | h
    · have := Int.mul_le_mul_of_nonneg_left (show (n : Int) + 1 ≤ D by omega) (show 0 ≤ q by omega)
      rw [Int.mul_add, Int.mul_one, Int.mul_comm q n] at this
      omega
    · exact h
  rcases Int.lt_or_le D 1 with h | h
  · refine ⟨0, by omega, h0, ?_, .inl rfl⟩
    have : D = 0 := by omega
    subst this
    simp at e ⊢
    omega
  · obtain ⟨K, hK⟩ := Int.eq_ofNat_of_zero_le (show 0 ≤ D - 1 by omega)
    refine ⟨K, by omega, by omega, ?_, ?_⟩
    · rw [show (K : Int) + 1 = D by omega, Int.mul_comm D q]; omega
    · right
      rw [show (K : Int) = D - 1 by omega, Int.sub_mul, Int.one_mul, Int.mul_comm D q]; omega
/-- Going away from the midst: a step of s. -/
theorem far_stp (c : Int) (l : List Int) : far (c + 1) l - far c l = (l.length : Int) - 2 * cnt (c + 1) l := by
  induction l with
  | nil => simp [far, cnt]
  | cons x l ih =>
    simp only [far, cnt, List.length_cons]
    have : dist x (c + 1) - dist x c = 1 - 2 * (if c + 1 ≤ x then 1 else 0) := by unfold dist; split <;> split <;> split <;> omega
    omega
theorem far_up (m : Int) (l : List Int) (h : 2 * cnt (m + 1) l ≤ l.length) : ∀ k : Nat, far m l ≤ far (m + k) l := by
  intro k
  induction k with
  | zero => simp
  | succ k ih =>
    have := far_stp (m + k) l
    have c := cnt_anti (show m + 1 ≤ m + k + 1 by omega) l
    rw [show m + ((k + 1 : Nat) : Int) = m + k + 1 by omega]
    omega
theorem far_down (m : Int) (l : List Int) (h : (l.length : Int) ≤ 2 * cnt m l) : ∀ k : Nat, far m l ≤ far (m - k) l := by
  intro k
  induction k with
  | zero => simp
  | succ k ih =>
    have := far_stp (m - k - 1) l
    rw [show m - (k : Int) - 1 + 1 = m - k by omega] at this
    have c := cnt_anti (show m - k ≤ m by omega) l
    rw [show m - ((k + 1 : Nat) : Int) = m - k - 1 by omega]
    omega
theorem far_min (m y : Int) (l : List Int) (h1 : 2 * cnt (m + 1) l ≤ l.length) (h2 : (l.length : Int) ≤ 2 * cnt m l) : far m l ≤ far y l := by
  rcases Int.le_total m y with h | h
  · obtain ⟨k, hk⟩ := Int.eq_ofNat_of_zero_le (show 0 ≤ y - m by omega)
    have := far_up m l h1 k
    rwa [show m + (k : Int) = y by omega] at this
  · obtain ⟨k, hk⟩ := Int.eq_ofNat_of_zero_le (show 0 ≤ m - y by omega)
    have := far_down m l h2 k
    rwa [show m - (k : Int) = y by omega] at this

set_option maxRecDepth 100000 in
set_option maxHeartbeats 16000000 in
theorem rankMedian_walk (a : Option Addr) (len cap : Nat) (l : List Int) (p : Int) (w : World) (hin : InRow w a len cap l) (_ : (Lit.int .i64 p).wf = true) :
    Calls Try.prog 5 #[.slice a len cap, .int .i64 p] w fun e w' =>
      e = .returned (.bool true) ∧ Below w.heap.size w w' := by
  obtain ⟨ys, n, hy, hn, hm, hb⟩ := vals_facts l
  have hlv : ∀ w', InRow w' a len cap l → _ := fun w' h => values_at a len cap l w' h ys n hy hn
  have hs0 := far_ok _ 2 2 [1, 5] 3 4 _ (Row.lit w 3 [1, 5] 2 rfl) (by omega) (by decide) (by omega) (by decide)
  simp only [List.map_cons, List.map_nil] at hs0
  have HLv := Lib.hid hlv
  have HS0 := Lib.hid hs0
  have HIn := Lib.hid hin
  have b1 := within_bd p (n := 16777217) (by omega)
  obtain ⟨P, e_P⟩ : ∃ z_, within p 16777217 = z_ := ⟨_, rfl⟩
  rw [e_P] at b1
  have HP := Lib.hid e_P
  clear e_P
  have qa := alloc_cells
  have qf := alloc_frozens
  rcases Nat.eq_zero_or_pos n with h0 | h0
  · subst h0
    clear hlv hs0 hin hn hy hb
    go_enter Try.func5, Try.ntmps5
    go_wp2_with fail
    refine (HS0.out).mono ?_
    rintro e w' ⟨rfl, rfl⟩
    go_wp2_with fail
    refine (HLv.out _ (HIn.out.below (by repeat (first | (with_reducible exact Below.refl _ _) | ((with_reducible refine Below.alloc ?_ ?_ _); rotate_left; (next => ((try dsimp only); (try simp only [World.size_alloc, World.size_setCell, World.size_drew]); omega))) | ((with_reducible refine Below.setCell ?_ ?_ _); rotate_left; (next => ((try dsimp only); (try simp only [World.size_alloc, World.size_setCell, World.size_drew]); omega))) | (with_reducible refine Below.drew ?_) | (refine Below.trans ?_ (by assumption)))))).mono ?_
    rintro e w2 ⟨A2, cap2, rfl, hrA2, hb2⟩
    have RA2 := Lib.hid hrA2.1
    have EA2 := Lib.hid hrA2.1.each
    have IA2 := Lib.hid hrA2
    have capA2 := hrA2.2.1
    clear hrA2
    have z2 := hb2.size
    have c2 := Below.cells hb2
    have f2 := Below.frozens hb2
    try simp only [World.size_alloc, World.size_setCell, World.size_drew] at z2 c2 f2
    go_wp2_with fail
    go_ret
    exact ⟨rfl, (by repeat (first | (with_reducible exact Below.refl _ _) | ((with_reducible refine Below.alloc ?_ ?_ _); rotate_left; (next => ((try dsimp only); (try simp only [World.size_alloc, World.size_setCell, World.size_drew]); omega))) | ((with_reducible refine Below.setCell ?_ ?_ _); rotate_left; (next => ((try dsimp only); (try simp only [World.size_alloc, World.size_setCell, World.size_drew]); omega))) | (with_reducible refine Below.drew ?_) | ((with_reducible refine Below.trans ?_ (Below.mono hb2 ?_)); rotate_left; (next => ((try dsimp only); (try simp only [World.size_alloc, World.size_setCell, World.size_drew]); omega)))))⟩
  · obtain ⟨K, hK, hKn, k1, k2⟩ := kth_rank n 1 2 h0 (by omega) (by omega)
    obtain ⟨x, hx⟩ : ∃ x, (srt ys).getD K 0 = x := ⟨_, rfl⟩
    have hmem := kth_mem ys K (by omega)
    have g1 := (kth_iff ys K (by omega) x).1 (by omega)
    have g2 : ¬ ((ys.length : Int) - K ≤ cnt (x + 1) ys) := fun h => by
      have := (kth_iff ys K (by omega) (x + 1)).2 h
      omega
    rw [hx] at hmem
    have hxb := hb x hmem
    obtain ⟨f1, hf1⟩ : ∃ f, far x ys = f := ⟨_, rfl⟩
    obtain ⟨f2, hf2⟩ : ∃ f, far P ys = f := ⟨_, rfl⟩
    have hle : f1 ≤ f2 := by rw [← hf1, ← hf2]; exact far_min x P ys (by omega) (by omega)
    have hs1 : ∀ A c w', Row w' A n ys → _ := fun A c w' h => rank_ok A n c ys 1 2 x K w' h h0 hm hb (by omega) (by omega) hK hKn hx
    have hs2 : ∀ A c w', Row w' A n ys → _ := fun A c w' h => far_ok A n c ys x f1 w' h hm hb hxb hf1
    have hs3 : ∀ A c w', Row w' A n ys → _ := fun A c w' h => far_ok A n c ys P f2 w' h hm hb (by omega) hf2
    have HS1 := Lib.hid hs1
    have HS2 := Lib.hid hs2
    have HS3 := Lib.hid hs3
    have n1 : ((n : Int) == 0) = false := by simp; omega
    clear hlv hs0 hs1 hs2 hs3 hin hn hy hb hmem hxb hf1 hf2 g1 g2 hx hK k1 k2
    go_enter Try.func5, Try.ntmps5
    go_wp2_with fail
    refine (HS0.out).mono ?_
    rintro e w' ⟨rfl, rfl⟩
    go_wp2_with fail
    refine (HLv.out _ (HIn.out.below (by repeat (first | (with_reducible exact Below.refl _ _) | ((with_reducible refine Below.alloc ?_ ?_ _); rotate_left; (next => ((try dsimp only); (try simp only [World.size_alloc, World.size_setCell, World.size_drew]); omega))) | ((with_reducible refine Below.setCell ?_ ?_ _); rotate_left; (next => ((try dsimp only); (try simp only [World.size_alloc, World.size_setCell, World.size_drew]); omega))) | (with_reducible refine Below.drew ?_) | (refine Below.trans ?_ (by assumption)))))).mono ?_
    rintro e w2 ⟨A2, cap2, rfl, hrA2, hb2⟩
    have RA2 := Lib.hid hrA2.1
    have EA2 := Lib.hid hrA2.1.each
    have IA2 := Lib.hid hrA2
    have capA2 := hrA2.2.1
    clear hrA2
    have z2 := hb2.size
    have c2 := Below.cells hb2
    have f2 := Below.frozens hb2
    try simp only [World.size_alloc, World.size_setCell, World.size_drew] at z2 c2 f2
    go_wp2_with fail
    refine (HS1.out _ _ _ RA2.out).mono ?_
    rintro e w3 ⟨rfl, hb3⟩
    have z3 := hb3.size
    have c3 := Below.cells hb3
    have f3 := Below.frozens hb3
    try simp only [World.size_alloc, World.size_setCell, World.size_drew] at z3 c3 f3
    go_wp2_with fail
    refine (HS2.out _ _ _ (RA2.out.below hb3)).mono ?_
    rintro e w' ⟨rfl, rfl⟩
    go_wp2_with fail
    refine (within_any p 16777217 P _ (by omega) (by omega) HP.out).mono ?_
    rintro e w' ⟨rfl, rfl⟩
    go_wp2_with fail
    refine (HS3.out _ _ _ (RA2.out.below hb3)).mono ?_
    rintro e w' ⟨rfl, rfl⟩
    go_wp2_with fail
    go_ret
    exact ⟨rfl, (by repeat (first | (with_reducible exact Below.refl _ _) | ((with_reducible refine Below.alloc ?_ ?_ _); rotate_left; (next => ((try dsimp only); (try simp only [World.size_alloc, World.size_setCell, World.size_drew]); omega))) | ((with_reducible refine Below.setCell ?_ ?_ _); rotate_left; (next => ((try dsimp only); (try simp only [World.size_alloc, World.size_setCell, World.size_drew]); omega))) | (with_reducible refine Below.drew ?_) | ((with_reducible refine Below.trans ?_ (Below.mono hb3 ?_)); rotate_left; (next => ((try dsimp only); (try simp only [World.size_alloc, World.size_setCell, World.size_drew]); omega))) | ((with_reducible refine Below.trans ?_ (Below.mono hb2 ?_)); rotate_left; (next => ((try dsimp only); (try simp only [World.size_alloc, World.size_setCell, World.size_drew]); omega)))))⟩
end Go.Proofs.Ytlaeibpanipefaa

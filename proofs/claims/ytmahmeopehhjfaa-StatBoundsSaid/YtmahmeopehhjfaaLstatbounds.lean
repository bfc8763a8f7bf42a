import Derived.Test.YtmahmeopehhjfaaSt
import Derived.Test.YtmahmeopehhjfaaMm
set_option linter.unusedSimpArgs false
set_option linter.unusedVariables false
namespace Go.Proofs.Ytmahmeopehhjfaa
open Go.RowKit

theorem mul_bd {a b A B : Int} (h : 0 ≤ a ∧ a ≤ A) (h' : 0 ≤ b ∧ b ≤ B) : 0 ≤ a * b ∧ a * b ≤ A * B :=
  ⟨Int.mul_nonneg h.1 h'.1, Int.mul_le_mul h.2 h'.2 h'.1 (by omega)⟩
theorem sumI_perm {a b : List Int} (h : a.Perm b) : sumI a = sumI b := by
  induction h with
  | nil => rfl
  | cons x _ ih => simp [sumI, ih]
  | swap x y l => simp only [sumI]; omega
  | trans _ _ h1 h2 => exact h1.trans h2
theorem sqI_perm {a b : List Int} (h : a.Perm b) : sqI a = sqI b := by
  induction h with
  | nil => rfl
  | cons x _ ih => simp [sqI, ih]
  | swap x y l => simp only [sqI]; omega
  | trans _ _ h1 h2 => exact h1.trans h2
theorem spr_perm {a b : List Int} (h : a.Perm b) : spr a = spr b := by unfold spr; rw [sumI_perm h, sqI_perm h, h.length_eq]
theorem quad (s : Int) (l : List Int) : 0 ≤ 4 * sqI l - 4 * (s * sumI l) + l.length * (s * s) := by
  induction l with
  | nil => simp [sqI, sumI]
  | cons x l ih =>
    have h := sq_nonneg (2 * x - s)
    have e : 4 * sqI (x :: l) - 4 * (s * sumI (x :: l)) + ((x :: l).length : Int) * (s * s) = (4 * sqI l - 4 * (s * sumI l) + l.length * (s * s)) + (2 * x - s) * (2 * x - s) := by
      simp only [sqI, sumI, List.length_cons, Int.natCast_add]; grind
    omega
/-- Nagy: from below. -/
theorem nagy {l : List Int} {lo hi : Int} (h1 : lo ∈ l) (h2 : hi ∈ l) : (l.length : Int) * (hi - lo) * (hi - lo) ≤ 2 * spr l := by
  by_cases e : hi = lo
  · subst e
    have := spr_nonneg l
    simp; omega
  · obtain ⟨r, hr⟩ : ∃ r, r = (l.erase lo).erase hi := ⟨_, rfl⟩
    have p1 := List.perm_cons_erase h1
    have p2 : (l.erase lo).Perm (hi :: r) := by
      rw [hr]
      exact List.perm_cons_erase ((List.mem_erase_of_ne e).2 h2)
    have p : l.Perm (lo :: hi :: r) := p1.trans (p2.cons lo)
    rw [spr_perm p, p.length_eq]
    have q := quad (hi + lo) r
    have s := spr_nonneg r
    have e : 2 * spr (lo :: hi :: r) - ((lo :: hi :: r).length : Int) * (hi - lo) * (hi - lo) = 2 * spr r + (4 * sqI r - 4 * ((hi + lo) * sumI r) + r.length * ((hi + lo) * (hi + lo))) := by
      simp only [spr, sqI, sumI, List.length_cons, Int.natCast_add]; grind
    omega
/-- Bhatia, Davis: from above. -/
theorem bhatia {l : List Int} {lo hi : Int} (h : Btw lo hi l) : 0 ≤ (hi + lo) * sumI l - sqI l - l.length * (hi * lo) := by
  induction l with
  | nil => simp [sqI, sumI]
  | cons x l ih =>
    have a := ih h.tail
    have b := h.head
    have c : 0 ≤ (hi - x) * (x - lo) := Int.mul_nonneg (by omega) (by omega)
    have e : (hi + lo) * sumI (x :: l) - sqI (x :: l) - ((x :: l).length : Int) * (hi * lo) = ((hi + lo) * sumI l - sqI l - l.length * (hi * lo)) + (hi - x) * (x - lo) := by
      simp only [sqI, sumI, List.length_cons, Int.natCast_add]; grind
    omega
theorem davis {l : List Int} {lo hi : Int} (h : Btw lo hi l) : spr l ≤ (l.length * hi - sumI l) * (sumI l - l.length * lo) := by
  have b := bhatia h
  have c : 0 ≤ (l.length : Int) * ((hi + lo) * sumI l - sqI l - l.length * (hi * lo)) := Int.mul_nonneg (by omega) b
  have e : (l.length * hi - sumI l) * (sumI l - l.length * lo) - spr l = (l.length : Int) * ((hi + lo) * sumI l - sqI l - l.length * (hi * lo)) := by
    simp only [spr]; grind
  omega
theorem popoviciu {l : List Int} {lo hi : Int} (h : Btw lo hi l) : 4 * spr l ≤ l.length * l.length * (hi - lo) * (hi - lo) := by
  have a := davis h
  have b := sq_nonneg ((l.length * hi - sumI l) - (sumI l - l.length * lo))
  have e : l.length * l.length * (hi - lo) * (hi - lo) - 4 * ((l.length * hi - sumI l) * (sumI l - l.length * lo)) = ((l.length * hi - sumI l) - (sumI l - l.length * lo)) * ((l.length * hi - sumI l) - (sumI l - l.length * lo)) := by
    grind
  omega
theorem sumI_btw {l : List Int} {lo hi : Int} (h : Btw lo hi l) : l.length * lo ≤ sumI l ∧ sumI l ≤ l.length * hi := by
  induction l with
  | nil => simp [sumI]
  | cons x l ih =>
    have a := ih h.tail
    have b := h.head
    simp only [sumI, List.length_cons, Int.natCast_add, Int.add_mul]
    omega

set_option maxHeartbeats 4000000 in
theorem statBounds_walk (a : Option Addr) (len cap : Nat) (l : List Int) (w : World) (hin : InRow w a len cap l) :
    Calls Try.prog 12 #[.slice a len cap] w fun e w' =>
      e = .returned (.bool true) ∧ Below w.heap.size w w' := by
  obtain ⟨ys, n, S, Q, X, hy, hn, hm, hb, hS, hQ, hX, hsp, ok⟩ := stat_pack l
  have hval : ∀ w', InRow w' a len cap l → _ := fun w' h => values_at a len cap l w' h ys n hy hn
  have HVal := Lib.hid hval
  have HIn := Lib.hid hin
  have qa := alloc_cells
  have qf := alloc_frozens
  rcases Nat.eq_zero_or_pos n with h0 | h0
  · subst h0
    clear hval hin hb hn hy ok hsp hS hQ hX hm
    go_enter Try.func12, Try.ntmps12
    go_wp2_with fail
    refine (begun_ok _).mono ?_
    rintro e w1 ⟨rfl, hb1⟩
    have z1 := hb1.size
    have c1 := Below.cells hb1
    have f1 := Below.frozens hb1
    try simp only [World.size_alloc, World.size_setCell, World.size_drew] at z1 c1 f1
    go_wp2_with fail
    refine (HVal.out _ (HIn.out.below (by repeat (first | (with_reducible exact Below.refl _ _) | ((with_reducible refine Below.alloc ?_ ?_ _); rotate_left; (next => ((try dsimp only); (try simp only [World.size_alloc, World.size_setCell, World.size_drew]); omega))) | ((with_reducible refine Below.setCell ?_ ?_ _); rotate_left; (next => ((try dsimp only); (try simp only [World.size_alloc, World.size_setCell, World.size_drew]); omega))) | (with_reducible refine Below.drew ?_) | ((with_reducible refine Below.trans ?_ (Below.mono hb1 ?_)); rotate_left; (next => ((try dsimp only); (try simp only [World.size_alloc, World.size_setCell, World.size_drew]); omega))))))).mono ?_
    rintro e w2 ⟨A, c, rfl, hrA, hb2⟩
    have RA := Lib.hid hrA.1
    have EA := Lib.hid hrA.1.each
    have IA := Lib.hid hrA
    have capA := hrA.2.1
    clear hrA
    have z2 := hb2.size
    have c2 := Below.cells hb2
    have f2 := Below.frozens hb2
    try simp only [World.size_alloc, World.size_setCell, World.size_drew] at z2 c2 f2
    go_wp2_with fail
    go_ret
    exact ⟨rfl, (by repeat (first | (with_reducible exact Below.refl _ _) | ((with_reducible refine Below.alloc ?_ ?_ _); rotate_left; (next => ((try dsimp only); (try simp only [World.size_alloc, World.size_setCell, World.size_drew]); omega))) | ((with_reducible refine Below.setCell ?_ ?_ _); rotate_left; (next => ((try dsimp only); (try simp only [World.size_alloc, World.size_setCell, World.size_drew]); omega))) | (with_reducible refine Below.drew ?_) | ((with_reducible refine Below.trans ?_ (Below.mono hb2 ?_)); rotate_left; (next => ((try dsimp only); (try simp only [World.size_alloc, World.size_setCell, World.size_drew]); omega))) | ((with_reducible refine Below.trans ?_ (Below.mono hb1 ?_)); rotate_left; (next => ((try dsimp only); (try simp only [World.size_alloc, World.size_setCell, World.size_drew]); omega)))))⟩
  · obtain ⟨lo, hlo⟩ := IsMin.ex (l := ys) (by omega)
    obtain ⟨hi, hhi⟩ := IsMax.ex (l := ys) (by omega)
    have hbt : Btw lo hi ys := fun x hx => ⟨hlo.2 x hx, hhi.2 x hx⟩
    have blo := hb lo hlo.1
    have bhi := hb hi hhi.1
    have blh := hlo.2 hi hhi.1
    have t1 := popoviciu hbt
    have t2 := davis hbt
    have t3 := nagy hlo.1 hhi.1
    have t4 := sumI_btw hbt
    rw [hsp, hn] at t1 t3
    rw [hsp, hn, hS] at t2
    rw [hn, hS] at t4
    have bd := ok.bd
    have hXb : 0 ≤ X ∧ X ≤ 1152921504606846976 := by omega
    have m0 : (0 : Int) ≤ n ∧ (n : Int) ≤ 64 := by omega
    have m1 := mul_bd m0 m0
    have m2 := mul_bd m1 (b := hi - lo) (B := 16777216) (by omega)
    have m3 := mul_bd m2 (b := hi - lo) (B := 16777216) (by omega)
    have m4 := mul_bd m0 (b := hi) (B := 16777216) (by omega)
    have m5 := mul_bd m0 (b := lo) (B := 16777216) (by omega)
    have m6 := mul_bd m0 (b := hi - lo) (B := 16777216) (by omega)
    have m7 := mul_bd m6 (b := hi - lo) (B := 16777216) (by omega)
    have m8 := mul_bd (a := n * hi - S) (b := S - n * lo) (A := 1073741824) (B := 1073741824) (by omega) (by omega)
    have hne : ((n : Int) == 0) = false := by simp; omega
    have hsum : ∀ A c w', Row w' A n ys → _ := fun A c w' h => sums_ok A n c ys S Q w' h hm hb hS hQ
    have hspr : ∀ w', _ := fun w' => spread_ok n S Q X ok hX w'
    have hmin : ∀ A c w', Row w' A n ys → _ := fun A c w' h => min_ok A n c ys lo w' h h0 (by omega) hlo
    have hmax : ∀ A c w', Row w' A n ys → _ := fun A c w' h => max_ok A n c ys hi w' h h0 (by omega) hhi
    have HSum := Lib.hid hsum
    have HSpr := Lib.hid hspr
    have HMin := Lib.hid hmin
    have HMax := Lib.hid hmax
    clear hval hsum hspr hmin hmax hin hb hn hy ok hsp hS hQ hX hlo hhi hbt bd
    go_enter Try.func12, Try.ntmps12
    go_wp2_with fail
    refine (begun_ok _).mono ?_
    rintro e w1 ⟨rfl, hb1⟩
    have z1 := hb1.size
    have c1 := Below.cells hb1
    have f1 := Below.frozens hb1
    try simp only [World.size_alloc, World.size_setCell, World.size_drew] at z1 c1 f1
    go_wp2_with fail
    refine (HVal.out _ (HIn.out.below (by repeat (first | (with_reducible exact Below.refl _ _) | ((with_reducible refine Below.alloc ?_ ?_ _); rotate_left; (next => ((try dsimp only); (try simp only [World.size_alloc, World.size_setCell, World.size_drew]); omega))) | ((with_reducible refine Below.setCell ?_ ?_ _); rotate_left; (next => ((try dsimp only); (try simp only [World.size_alloc, World.size_setCell, World.size_drew]); omega))) | (with_reducible refine Below.drew ?_) | ((with_reducible refine Below.trans ?_ (Below.mono hb1 ?_)); rotate_left; (next => ((try dsimp only); (try simp only [World.size_alloc, World.size_setCell, World.size_drew]); omega))))))).mono ?_
    rintro e w2 ⟨A, c, rfl, hrA, hb2⟩
    have RA := Lib.hid hrA.1
    have EA := Lib.hid hrA.1.each
    have IA := Lib.hid hrA
    have capA := hrA.2.1
    clear hrA
    have z2 := hb2.size
    have c2 := Below.cells hb2
    have f2 := Below.frozens hb2
    try simp only [World.size_alloc, World.size_setCell, World.size_drew] at z2 c2 f2
    go_wp2_with fail
    refine (HSum.out A c _ (RA.out.below (by repeat (first | (with_reducible exact Below.refl _ _) | ((with_reducible refine Below.alloc ?_ ?_ _); rotate_left; (next => ((try dsimp only); (try simp only [World.size_alloc, World.size_setCell, World.size_drew]); omega))) | ((with_reducible refine Below.setCell ?_ ?_ _); rotate_left; (next => ((try dsimp only); (try simp only [World.size_alloc, World.size_setCell, World.size_drew]); omega))) | (with_reducible refine Below.drew ?_) | (refine Below.trans ?_ (by assumption)))))).mono ?_
    rintro e w3 ⟨rfl, hb3⟩
    have z3 := hb3.size
    have c3 := Below.cells hb3
    have f3 := Below.frozens hb3
    try simp only [World.size_alloc, World.size_setCell, World.size_drew] at z3 c3 f3
    go_wp2_with fail
    refine (HSpr.out _).mono ?_
    rintro e w4 ⟨rfl, hb4⟩
    have z4 := hb4.size
    have c4 := Below.cells hb4
    have f4 := Below.frozens hb4
    try simp only [World.size_alloc, World.size_setCell, World.size_drew] at z4 c4 f4
    go_wp2_with fail
    refine (HMin.out A c _ (RA.out.below (by repeat (first | (with_reducible exact Below.refl _ _) | ((with_reducible refine Below.alloc ?_ ?_ _); rotate_left; (next => ((try dsimp only); (try simp only [World.size_alloc, World.size_setCell, World.size_drew]); omega))) | ((with_reducible refine Below.setCell ?_ ?_ _); rotate_left; (next => ((try dsimp only); (try simp only [World.size_alloc, World.size_setCell, World.size_drew]); omega))) | (with_reducible refine Below.drew ?_) | ((with_reducible refine Below.trans ?_ (Below.mono hb4 ?_)); rotate_left; (next => ((try dsimp only); (try simp only [World.size_alloc, World.size_setCell, World.size_drew]); omega))) | ((with_reducible refine Below.trans ?_ (Below.mono hb3 ?_)); rotate_left; (next => ((try dsimp only); (try simp only [World.size_alloc, World.size_setCell, World.size_drew]); omega))))))).mono ?_
    rintro e w' ⟨rfl, rfl⟩
    go_wp2_with fail
    refine (HMax.out A c _ (RA.out.below (by repeat (first | (with_reducible exact Below.refl _ _) | ((with_reducible refine Below.alloc ?_ ?_ _); rotate_left; (next => ((try dsimp only); (try simp only [World.size_alloc, World.size_setCell, World.size_drew]); omega))) | ((with_reducible refine Below.setCell ?_ ?_ _); rotate_left; (next => ((try dsimp only); (try simp only [World.size_alloc, World.size_setCell, World.size_drew]); omega))) | (with_reducible refine Below.drew ?_) | ((with_reducible refine Below.trans ?_ (Below.mono hb4 ?_)); rotate_left; (next => ((try dsimp only); (try simp only [World.size_alloc, World.size_setCell, World.size_drew]); omega))) | ((with_reducible refine Below.trans ?_ (Below.mono hb3 ?_)); rotate_left; (next => ((try dsimp only); (try simp only [World.size_alloc, World.size_setCell, World.size_drew]); omega))))))).mono ?_
    rintro e w' ⟨rfl, rfl⟩
    go_wp2_with fail
    go_ret
    exact ⟨rfl, (by repeat (first | (with_reducible exact Below.refl _ _) | ((with_reducible refine Below.alloc ?_ ?_ _); rotate_left; (next => ((try dsimp only); (try simp only [World.size_alloc, World.size_setCell, World.size_drew]); omega))) | ((with_reducible refine Below.setCell ?_ ?_ _); rotate_left; (next => ((try dsimp only); (try simp only [World.size_alloc, World.size_setCell, World.size_drew]); omega))) | (with_reducible refine Below.drew ?_) | ((with_reducible refine Below.trans ?_ (Below.mono hb4 ?_)); rotate_left; (next => ((try dsimp only); (try simp only [World.size_alloc, World.size_setCell, World.size_drew]); omega))) | ((with_reducible refine Below.trans ?_ (Below.mono hb3 ?_)); rotate_left; (next => ((try dsimp only); (try simp only [World.size_alloc, World.size_setCell, World.size_drew]); omega))) | ((with_reducible refine Below.trans ?_ (Below.mono hb2 ?_)); rotate_left; (next => ((try dsimp only); (try simp only [World.size_alloc, World.size_setCell, World.size_drew]); omega))) | ((with_reducible refine Below.trans ?_ (Below.mono hb1 ?_)); rotate_left; (next => ((try dsimp only); (try simp only [World.size_alloc, World.size_setCell, World.size_drew]); omega)))))⟩
end Go.Proofs.Ytmahmeopehhjfaa

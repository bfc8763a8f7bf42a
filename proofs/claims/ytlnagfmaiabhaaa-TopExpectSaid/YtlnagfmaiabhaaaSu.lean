/-
  The walks of stat.Mean, Add, Less, Join.
-/
import Derived.Test.YtlnagfmaiabhaaaSt
set_option linter.unusedSimpArgs false
set_option linter.unusedVariables false
namespace Go.Proofs.Ytlnagfmaiabhaaa
open Go.RowKit

set_option maxHeartbeats 1000000 in
theorem mean_ok (n s q m : Int) (h : SumsOK n s q) (h0 : 0 < n) (hm : s / n = m) (w : World) :
    Calls Try.prog 59 #[.agg #[.int .i64 n, .int .i64 s, .int .i64 q]] w fun e w' => e = .returned (.tuple #[.int .i64 m, .int .i64 0]) ∧ Below w.heap.size w w' := by
  obtain ⟨b1, b2, b3, b4, b5, b6, b7, b8, b9, b10⟩ := h.bd
  have hne : (n == 0) = false := by simp; omega
  have h1 : 0 ≤ s / n := Int.ediv_nonneg b3 (by omega)
  have h2 : s / n ≤ s := Int.ediv_le_self _ b3
  have HC := Lib.hid h
  have HM := Lib.hid hm
  clear h hm
  have qa := alloc_cells
  have qf := alloc_frozens
  go_enter Try.func59, Try.ntmps59
  go_wp2_with fail
  refine (scheck_ok _ _ _ HC.out _).mono ?_
  rintro e w1 ⟨rfl, hb1⟩
  have z1 := hb1.size
  have c1 := Below.cells hb1
  have f1 := Below.frozens hb1
  try simp only [World.size_alloc, World.size_setCell, World.size_drew] at z1 c1 f1
  go_wp2_with fail
  rw [HM.out]
  go_ret2
  exact ⟨rfl, (by repeat (first | (with_reducible exact Below.refl _ _) | ((with_reducible refine Below.alloc ?_ ?_ _); rotate_left; (next => ((try dsimp only); (try simp only [World.size_alloc, World.size_setCell, World.size_drew]); omega))) | ((with_reducible refine Below.setCell ?_ ?_ _); rotate_left; (next => ((try dsimp only); (try simp only [World.size_alloc, World.size_setCell, World.size_drew]); omega))) | (with_reducible refine Below.drew ?_) | ((with_reducible refine Below.trans ?_ (Below.mono hb1 ?_)); rotate_left; (next => ((try dsimp only); (try simp only [World.size_alloc, World.size_setCell, World.size_drew]); omega)))))⟩

set_option maxHeartbeats 2000000 in
theorem sadd_ok (n s q x a b c : Int) (h : SumsOK n s q) (h0 : n < 64) (hx : 0 ≤ x ∧ x ≤ 16777216) (ha : n + 1 = a) (hb : s + x = b) (hc : q + x * x = c) (w : World) :
    Calls Try.prog 43 #[.agg #[.int .i64 n, .int .i64 s, .int .i64 q], .int .i64 x] w fun e w' => e = .returned (.tuple #[.agg #[.int .i64 a, .int .i64 b, .int .i64 c], .int .i64 0]) ∧ Below w.heap.size w w' := by
  obtain ⟨b1, b2, b3, b4, b5, b6, b7, b8, b9, b10⟩ := h.bd
  have hne : (n == 64) = false := by simp; omega
  have hxx : 0 ≤ x * x ∧ x * x ≤ 281474976710656 := ⟨sq_nonneg x, Int.le_trans (Int.mul_le_mul_of_nonneg_left hx.2 hx.1) (by omega)⟩
  have HC := Lib.hid h
  have H1 := Lib.hid ha
  have H2 := Lib.hid hb
  have H3 := Lib.hid hc
  obtain ⟨x0, x1⟩ := hx
  clear h ha hb hc
  have qa := alloc_cells
  have qf := alloc_frozens
  go_enter Try.func43, Try.ntmps43
  go_wp2_with fail
  refine (scheck_ok _ _ _ HC.out _).mono ?_
  rintro e w1 ⟨rfl, hb1⟩
  have z1 := hb1.size
  have c1 := Below.cells hb1
  have f1 := Below.frozens hb1
  try simp only [World.size_alloc, World.size_setCell, World.size_drew] at z1 c1 f1
  go_wp2_with fail
  refine (val_ok x x0 x1 _).mono ?_
  rintro e w' ⟨rfl, rfl⟩
  go_wp2_with fail
  refine bodyPost_ret (v := .tuple #[.agg #[.int .i64 (n + 1), .int .i64 (s + x), .int .i64 (q + x * x)], .int .i64 0]) (by simp [results, Try.results43, go_sem, ↓IntWalk.iteOmega, *]) rfl ?_
  exact ⟨by rw [H1.out, H2.out, H3.out], (by repeat (first | (with_reducible exact Below.refl _ _) | ((with_reducible refine Below.alloc ?_ ?_ _); rotate_left; (next => ((try dsimp only); (try simp only [World.size_alloc, World.size_setCell, World.size_drew]); omega))) | ((with_reducible refine Below.setCell ?_ ?_ _); rotate_left; (next => ((try dsimp only); (try simp only [World.size_alloc, World.size_setCell, World.size_drew]); omega))) | (with_reducible refine Below.drew ?_) | ((with_reducible refine Below.trans ?_ (Below.mono hb1 ?_)); rotate_left; (next => ((try dsimp only); (try simp only [World.size_alloc, World.size_setCell, World.size_drew]); omega)))))⟩

set_option maxHeartbeats 2000000 in
theorem sless_ok (n s q x a b c : Int) (h : SumsOK n s q) (hx : 0 ≤ x ∧ x ≤ 16777216) (ha : n - 1 = a) (hb : s - x = b) (hc : q - x * x = c) (h' : SumsOK a b c) (w : World) :
    Calls Try.prog 44 #[.agg #[.int .i64 n, .int .i64 s, .int .i64 q], .int .i64 x] w fun e w' => e = .returned (.tuple #[.agg #[.int .i64 a, .int .i64 b, .int .i64 c], .int .i64 0]) ∧ Below w.heap.size w w' := by
  obtain ⟨b1, b2, b3, b4, b5, b6, b7, b8, b9, b10⟩ := h.bd
  have hxx : 0 ≤ x * x ∧ x * x ≤ 281474976710656 := ⟨sq_nonneg x, Int.le_trans (Int.mul_le_mul_of_nonneg_left hx.2 hx.1) (by omega)⟩
  subst ha hb hc
  have HC := Lib.hid h
  have HD := Lib.hid h'
  obtain ⟨x0, x1⟩ := hx
  clear h h'
  have qa := alloc_cells
  have qf := alloc_frozens
  go_enter Try.func44, Try.ntmps44
  go_wp2_with fail
  refine (scheck_ok _ _ _ HC.out _).mono ?_
  rintro e w1 ⟨rfl, hb1⟩
  have z1 := hb1.size
  have c1 := Below.cells hb1
  have f1 := Below.frozens hb1
  try simp only [World.size_alloc, World.size_setCell, World.size_drew] at z1 c1 f1
  go_wp2_with fail
  refine (val_ok x x0 x1 _).mono ?_
  rintro e w' ⟨rfl, rfl⟩
  go_wp2_with fail
  refine (scheck_ok _ _ _ HD.out _).mono ?_
  rintro e w2 ⟨rfl, hb2⟩
  have z2 := hb2.size
  have c2 := Below.cells hb2
  have f2 := Below.frozens hb2
  try simp only [World.size_alloc, World.size_setCell, World.size_drew] at z2 c2 f2
  go_wp2_with fail
  refine bodyPost_ret (v := .tuple #[.agg #[.int .i64 (n - 1), .int .i64 (s - x), .int .i64 (q - x * x)], .int .i64 0]) (by simp [results, Try.results44, go_sem, ↓IntWalk.iteOmega, *]) rfl ?_
  exact ⟨rfl, (by repeat (first | (with_reducible exact Below.refl _ _) | ((with_reducible refine Below.alloc ?_ ?_ _); rotate_left; (next => ((try dsimp only); (try simp only [World.size_alloc, World.size_setCell, World.size_drew]); omega))) | ((with_reducible refine Below.setCell ?_ ?_ _); rotate_left; (next => ((try dsimp only); (try simp only [World.size_alloc, World.size_setCell, World.size_drew]); omega))) | (with_reducible refine Below.drew ?_) | ((with_reducible refine Below.trans ?_ (Below.mono hb2 ?_)); rotate_left; (next => ((try dsimp only); (try simp only [World.size_alloc, World.size_setCell, World.size_drew]); omega))) | ((with_reducible refine Below.trans ?_ (Below.mono hb1 ?_)); rotate_left; (next => ((try dsimp only); (try simp only [World.size_alloc, World.size_setCell, World.size_drew]); omega)))))⟩

set_option maxHeartbeats 2000000 in
theorem sjoin_ok (n s q n' s' q' a b c : Int) (h : SumsOK n s q) (h' : SumsOK n' s' q') (h0 : n + n' ≤ 64) (ha : n + n' = a) (hb : s + s' = b) (hc : q + q' = c) (w : World) :
    Calls Try.prog 46 #[.agg #[.int .i64 n, .int .i64 s, .int .i64 q], .agg #[.int .i64 n', .int .i64 s', .int .i64 q']] w fun e w' => e = .returned (.tuple #[.agg #[.int .i64 a, .int .i64 b, .int .i64 c], .int .i64 0]) ∧ Below w.heap.size w w' := by
  obtain ⟨b1, b2, b3, b4, b5, b6, b7, b8, b9, b10⟩ := h.bd
  obtain ⟨d1, d2, d3, d4, d5, d6, d7, d8, d9, d10⟩ := h'.bd
  have HC := Lib.hid h
  have HD := Lib.hid h'
  have H1 := Lib.hid ha
  have H2 := Lib.hid hb
  have H3 := Lib.hid hc
  clear h h' ha hb hc
  have qa := alloc_cells
  have qf := alloc_frozens
  go_enter Try.func46, Try.ntmps46
  go_wp2_with fail
  refine (scheck_ok _ _ _ HC.out _).mono ?_
  rintro e w1 ⟨rfl, hb1⟩
  have z1 := hb1.size
  have c1 := Below.cells hb1
  have f1 := Below.frozens hb1
  try simp only [World.size_alloc, World.size_setCell, World.size_drew] at z1 c1 f1
  go_wp2_with fail
  refine (scheck_ok _ _ _ HD.out _).mono ?_
  rintro e w2 ⟨rfl, hb2⟩
  have z2 := hb2.size
  have c2 := Below.cells hb2
  have f2 := Below.frozens hb2
  try simp only [World.size_alloc, World.size_setCell, World.size_drew] at z2 c2 f2
  go_wp2_with fail
  refine bodyPost_ret (v := .tuple #[.agg #[.int .i64 (n + n'), .int .i64 (s + s'), .int .i64 (q + q')], .int .i64 0]) (by simp [results, Try.results46, go_sem, ↓IntWalk.iteOmega, *]) rfl ?_
  exact ⟨by rw [H1.out, H2.out, H3.out], (by repeat (first | (with_reducible exact Below.refl _ _) | ((with_reducible refine Below.alloc ?_ ?_ _); rotate_left; (next => ((try dsimp only); (try simp only [World.size_alloc, World.size_setCell, World.size_drew]); omega))) | ((with_reducible refine Below.setCell ?_ ?_ _); rotate_left; (next => ((try dsimp only); (try simp only [World.size_alloc, World.size_setCell, World.size_drew]); omega))) | (with_reducible refine Below.drew ?_) | ((with_reducible refine Below.trans ?_ (Below.mono hb2 ?_)); rotate_left; (next => ((try dsimp only); (try simp only [World.size_alloc, World.size_setCell, World.size_drew]); omega))) | ((with_reducible refine Below.trans ?_ (Below.mono hb1 ?_)); rotate_left; (next => ((try dsimp only); (try simp only [World.size_alloc, World.size_setCell, World.size_drew]); omega)))))⟩
theorem sumsOK_snoc {l : List Int} {x : Int} (h : Btw 0 16777216 l) (hl : l.length < 64) (hx : 0 ≤ x ∧ x ≤ 16777216) : SumsOK (l.length + 1) (sumI l + x) (sqI l + x * x) := by
  have := sumsOK_of (h.append (Btw.one hx.1 hx.2)) (by simp; omega)
  simpa [sumI_append, sqI_append, sumI, sqI] using this
end Go.Proofs.Ytlnagfmaiabhaaa

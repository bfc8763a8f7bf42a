/-
  The walks of tail.Count and tail.Markov, and Markov's inequality.
-/
import Derived.Test.YtlnagfmaiabhaaaSt
set_option linter.unusedSimpArgs false
set_option linter.unusedVariables false
namespace Go.Proofs.Ytlnagfmaiabhaaa
open Go.RowKit

/-- How many are at least t. -/
def cnt (t : Int) : List Int → Int
  | [] => 0
  | x :: l => (if t ≤ x then 1 else 0) + cnt t l
theorem cnt_append (t : Int) (a b : List Int) : cnt t (a ++ b) = cnt t a + cnt t b := by
  induction a with
  | nil => simp [cnt]
  | cons x a ih => simp only [List.cons_append, cnt, ih]; omega
theorem cnt_snoc (t : Int) (l : List Int) {k : Nat} (h : k < l.length) : cnt t (l.take (k + 1)) = cnt t (l.take k) + if t ≤ l.getD k 0 then 1 else 0 := by
  rw [take_snoc l h, cnt_append]; simp [cnt]
theorem cnt_bd (t : Int) (l : List Int) : 0 ≤ cnt t l ∧ cnt t l ≤ l.length := by
  induction l with
  | nil => simp [cnt]
  | cons x l ih => simp only [cnt, List.length_cons, Int.natCast_add]; split <;> omega
theorem cnt_anti {s t : Int} (h : s ≤ t) (l : List Int) : cnt t l ≤ cnt s l := by
  induction l with
  | nil => simp [cnt]
  | cons x l ih => simp only [cnt]; split <;> split <;> omega
theorem cnt_sum {t : Int} (ht : 0 ≤ t) {l : List Int} {M : Int} (h : Btw 0 M l) : cnt t l * t ≤ sumI l := by
  induction l with
  | nil => simp [cnt, sumI]
  | cons x l ih =>
    have a := h.head
    have b := ih h.tail
    simp only [cnt, sumI]
    split
    · rw [Int.add_mul]; omega
    · rw [Int.zero_add]; omega
/-- Markov's bound. -/
def markov (n s t : Int) : Int := if s / t < n then s / t else n
theorem quo_bd {s t : Int} (hs : 0 ≤ s) (ht : 1 ≤ t) : 0 ≤ s / t ∧ s / t ≤ s := ⟨Int.ediv_nonneg hs (by omega), Int.ediv_le_self _ hs⟩
theorem quo_anti {s t u : Int} (hs : 0 ≤ s) (ht : 1 ≤ t) (h : t ≤ u) : s / u ≤ s / t := by
  rw [Int.le_ediv_iff_mul_le (by omega)]
  have a := Int.ediv_mul_le s (b := u) (by omega)
  have b : s / u * t ≤ s / u * u := Int.mul_le_mul_of_nonneg_left h (quo_bd hs (by omega)).1
  omega

set_option maxHeartbeats 1000000 in
theorem count_ok (A : Option Addr) (n c : Nat) (l : List Int) (t f : Int) (w : World) (hr : Row w A n l) (hm : n ≤ 64) (hb : Btw 0 16777216 l) (hf : cnt t l = f) :
    Calls Try.prog 56 #[.slice A n c, .int .i64 t] w fun e w' => e = .returned (.tuple #[.int .i64 f, .int .i64 0]) ∧ w = w' := by
  have HB := Lib.hid hr.each
  have HL := Lib.hid hr.len
  have HF := Lib.hid hf
  have C := Lib.hid (list_ok A n c l w hr hm hb)
  clear hr hf hb
  go_enter Try.func56, Try.ntmps56
  go_wp2_with fail
  refine (C.out).mono ?_
  rintro e w' ⟨rfl, rfl⟩
  go_wp2_with fail
  go_loop [7, 17] (fun v i => ∃ (k : Nat) (D : Int), k ≤ n ∧ i = .int .i64 k ∧ v = .int .i64 D ∧ cnt t (l.take k) = D) (fun _ i => n - (intOf i).toNat)
  case atStart => exact ⟨0, 0, Nat.zero_le _, rfl, rfl, by simp [cnt]⟩
  case round =>
    obtain ⟨k, D, hk, rfl, rfl, hD⟩ := hrel
    have d1 := cnt_bd t (l.take k)
    have hlen : (l.take k).length ≤ 64 := by simp; omega
    rw [hD] at d1
    have d3 : 0 ≤ D ∧ D ≤ 64 := by omega
    by_cases hlt : k < n
    · have d2 := cnt_snoc t l (k := k) (by have := HL.out; omega)
      rw [hD] at d2
      obtain ⟨bkx, offx, hAx, ltx, hrx⟩ := HB.out k hlt
      subst hAx
      obtain ⟨x, hvx, hxx⟩ := name_num hrx
      have HX := Lib.hid hvx
      clear hvx hrx
      rw [← HX.out] at d2
      clear d1 hlen hD
      by_cases hc : t ≤ x
      · rw [if_pos hc] at d2
        have D2 := Lib.hid d2
        clear d2
        go_wp2_with fail
        go_round
        case rel => exact ⟨k + 1, _, by omega, by go_num, rfl, D2.out⟩
        case measure => simp [intOf]; omega
      · rw [if_neg hc, Int.add_zero] at d2
        have D2 := Lib.hid d2
        clear d2
        go_wp2_with fail
        go_round
        case rel => exact ⟨k + 1, _, by omega, by go_num, rfl, D2.out⟩
        case measure => simp [intOf]; omega
    · obtain rfl : k = n := by omega
      rw [List.take_of_length_le (by have := HL.out; omega), HF.out] at hD
      subst hD
      clear d1 hlen
      go_wp2_with fail
      go_ret2
      exact ⟨rfl, rfl⟩

set_option maxHeartbeats 1000000 in
theorem markov_ok (n s q t m : Int) (h : SumsOK n s q) (ht : 1 ≤ t) (ht' : t ≤ 1073741824) (hm : markov n s t = m) (w : World) :
    Calls Try.prog 57 #[.agg #[.int .i64 n, .int .i64 s, .int .i64 q], .int .i64 t] w fun e w' => e = .returned (.tuple #[.int .i64 m, .int .i64 0]) ∧ Below w.heap.size w w' := by
  obtain ⟨b1, b2, b3, b4, b5, b6, b7, b8, b9, b10⟩ := h.bd
  have hq := quo_bd b3 ht
  have hcs : (s / t < n ∧ m = s / t) ∨ (¬ s / t < n ∧ m = n) := by
    unfold markov at hm
    by_cases c : s / t < n
    · rw [if_pos c] at hm; exact .inl ⟨c, hm.symm⟩
    · rw [if_neg c] at hm; exact .inr ⟨c, hm.symm⟩
  clear hm
  have HC := Lib.hid h
  clear h
  have e1 : s.tdiv t = s / t := Int.tdiv_eq_ediv_of_nonneg b3
  have e2 : IntKind.i64.wrap (s / t) = s / t := IntWalk.i64_in _ (by omega)
  have qa := alloc_cells
  have qf := alloc_frozens
  rcases hcs with ⟨hc, rfl⟩ | ⟨hc, rfl⟩
  all_goals
    go_enter Try.func57, Try.ntmps57
    go_wp2_with fail
    refine (scheck_ok _ _ _ HC.out _).mono ?_
    rintro e w1 ⟨rfl, hb1⟩
    have z1 := hb1.size
    have c1 := Below.cells hb1
    have f1 := Below.frozens hb1
    try simp only [World.size_alloc, World.size_setCell, World.size_drew] at z1 c1 f1
    go_wp2_with fail
    refine wp_region_quiet_all (Ext _) (by kernel_rfl) (by kernel_rfl) (Ext.drawn _) ?_
    repeat (first | go_big_quiet_skip | go_big_quiet_step (fail) | (refine BigFrame.wpQuiet_want rfl (fun K hK => ?_); apply Exists.intro; refine ⟨fun w2 h2 => ?_, ?_⟩; (next => (have g1 := Below.cells h2.below; have g2 := Below.frozens h2.below; (try simp only [World.size_alloc, World.size_setCell] at g1 g2); first | (go_simp; (fail)) | (simp [go_sem, ↓IntWalk.iteOmega, *]; done) | (simp [go_sem, ↓IntWalk.iteOmega, *]; rfl)))); (go_simp; refine hK _ ?_; clear hK K))
    refine wpQuiet_nil ?_
    intro w2 h2
    have hb2 := h2.below
    clear h2
    have z2 := hb2.size
    have c2 := Below.cells hb2
    have f2 := Below.frozens hb2
    try simp only [World.size_alloc, World.size_setCell, World.size_drew] at z2 c2 f2
    go_wp2_with fail
    go_ret2
    exact ⟨rfl, (by repeat (first | (with_reducible exact Below.refl _ _) | ((with_reducible refine Below.alloc ?_ ?_ _); rotate_left; (next => ((try dsimp only); (try simp only [World.size_alloc, World.size_setCell, World.size_drew]); omega))) | ((with_reducible refine Below.setCell ?_ ?_ _); rotate_left; (next => ((try dsimp only); (try simp only [World.size_alloc, World.size_setCell, World.size_drew]); omega))) | (with_reducible refine Below.drew ?_) | ((with_reducible refine Below.trans ?_ (Below.mono hb2 ?_)); rotate_left; (next => ((try dsimp only); (try simp only [World.size_alloc, World.size_setCell, World.size_drew]); omega))) | ((with_reducible refine Below.trans ?_ (Below.mono hb1 ?_)); rotate_left; (next => ((try dsimp only); (try simp only [World.size_alloc, World.size_setCell, World.size_drew]); omega)))))⟩
end Go.Proofs.Ytlnagfmaiabhaaa

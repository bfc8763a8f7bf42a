import Derived.Test.YtamncanlbopehaaMl
set_option linter.unusedSimpArgs false
set_option linter.unusedVariables false
namespace Go.Proofs.Ytamncanlbopehaa
open Go.RowKit

theorem bd_same (ts : List Int) (E F : Int) : ∀ k, k ≤ ts.length → bdS (ts ++ [E]) k = bdS (ts ++ [F]) k ∧ gdS (ts ++ [E]) k = gdS (ts ++ [F]) k := by
  intro k
  induction k with
  | zero => intro _; exact ⟨rfl, rfl⟩
  | succ k ih =>
    intro hk
    obtain ⟨a, b⟩ := ih (by omega)
    simp only [bdS, gdS]
    rw [a, b, get_append ts E (by omega), get_append ts F (by omega), bef_append ts E (by omega), bef_append ts F (by omega)]
    exact ⟨rfl, rfl⟩
/-- A later end: what stood goes on. -/
theorem marks_more (ts : List Int) (n : Nat) (E M : Int) (hn : ts.length = n) :
    bdS (ts ++ [E + M]) (n + 1) = bdS (ts ++ [E]) (n + 1) + (if par n then 0 else M) ∧ gdS (ts ++ [E + M]) (n + 1) = gdS (ts ++ [E]) (n + 1) + (if par n then M else 0) := by
  subst hn
  obtain ⟨a, b⟩ := bd_same ts (E + M) E ts.length (Nat.le_refl _)
  simp only [bdS, gdS]
  rw [a, b, get_last, get_last, bef_append ts (E + M) (Nat.le_refl _), bef_append ts E (Nat.le_refl _)]
  split <;> omega

set_option maxRecDepth 100000 in
set_option maxHeartbeats 8000000 in
theorem marksLonger_walk (a : Option Addr) (len cap : Nat) (l : List Int) (p : Int) (w : World) (hin : InRow w a len cap l) (_ : (Lit.int .i64 p).wf = true) :
    Calls Try.prog 10 #[.slice a len cap, .int .i64 p] w fun e w' =>
      e = .returned (.bool true) ∧ Below w.heap.size w w' := by
  obtain ⟨ts, n, hy, hn, h64, _, _, hget, hbd⟩ := turns_pack l
  have eb := hbd n (Nat.le_refl _)
  obtain ⟨E, hE⟩ : ∃ E, bef ts n = E := ⟨_, rfl⟩
  rw [hE] at eb
  have b1 := within_bd p (n := 1000) (by omega)
  obtain ⟨P, e_P⟩ : ∃ z_, within p 1000 = z_ := ⟨_, rfl⟩
  rw [e_P] at b1
  have HP := Lib.hid e_P
  clear e_P
  have hmo := turns_mono hn hget (e := E) (by omega) (by omega)
  have hmo2 := turns_mono hn hget (e := E + P) (by omega) (by omega)
  obtain ⟨B, G, hB, hG, hBG, B0, G0⟩ := marks_pack ts n E hn hmo
  obtain ⟨hm1, hm2⟩ := marks_more ts n E P hn
  rw [hB] at hm1
  rw [hG] at hm2
  obtain ⟨T, hT⟩ : ∃ T : Int, ((n + 1) / 2 : Nat) = T := ⟨_, rfl⟩
  obtain ⟨F, hF⟩ : ∃ F, E + P = F := ⟨_, rfl⟩
  rw [hF] at hm1 hm2 hmo2
  have h0 := mof_at _ 2 2 [0, 4] 9 4 5 1 _ (in_two w 0 4) (by omega) ⟨by omega, by decide⟩ (by omega) (by decide) (by decide) (by decide)
  have h1 : ∀ w', InRow w' a len cap l → _ := fun w' h => turns_at a len cap l w' h ts n E hy hn hE
  have h2 : ∀ A c w', InTurns w' A n c ts → _ := fun A c w' h => mof_at A n c ts E B G T w' h h64 hmo (by omega) hB hG hT
  have h3 : ∀ A c w', InTurns w' A n c ts → _ := fun A c w' h => mof_at A n c ts F _ _ T w' h h64 hmo2 (by omega) hm1 hm2 hT
  have hall : ∀ j, j < n → ts.getD j 0 ≤ F := fun j hj => (hmo2.2 j (by omega)).2
  have h4 : ∀ A c w', InTurns w' A n c ts → _ := fun A c w' h => mat_ok A n c n ts F F w' h.1 h64 hmo2 (by omega) (by omega) (Nat.le_refl _) hall (fun h => by omega)
  have H0 := Lib.hid h0
  have H1 := Lib.hid h1
  have H2 := Lib.hid h2
  have HIn := Lib.hid hin
  have tb : 0 ≤ T ∧ T ≤ 32 := by omega
  have fb : 0 ≤ F ∧ F ≤ 3000 := by omega
  have pm : ((n : Int) % 2 == 1) = !par n := by
    unfold par
    rcases Nat.mod_two_eq_zero_or_one n with h | h
    · rw [show (n : Int) % 2 = 0 by omega, h]; rfl
    · rw [show (n : Int) % 2 = 1 by omega, h]; rfl
  have qa := alloc_cells
  have qf := alloc_frozens
  rcases hp : par n with _ | _
  all_goals
    rw [hp] at h3 h4 pm
    simp only [Bool.not_true, Bool.not_false, if_true, if_false, Bool.false_eq_true, Int.add_zero] at h3 h4 pm
    have H3 := Lib.hid h3
    have H4 := Lib.hid h4
    clear h0 h1 h2 h3 h4 hin hB hG hT hmo hmo2 hE hget hbd hn hy hall hm1 hm2 hp
    go_enter Try.func10, Try.ntmps10
    go_wp2_with fail
    refine (H0.out).mono ?_
    rintro e w1 ⟨rfl, hb1⟩
    have z1 := hb1.size
    have c1 := Below.cells hb1
    have f1 := Below.frozens hb1
    try simp only [World.size_alloc, World.size_setCell, World.size_drew] at z1 c1 f1
    go_wp2_with fail
    refine (H1.out _ (HIn.out.below (by repeat (first | (with_reducible exact Below.refl _ _) | ((with_reducible refine Below.alloc ?_ ?_ _); rotate_left; (next => ((try dsimp only); (try simp only [World.size_alloc, World.size_setCell, World.size_drew]); omega))) | ((with_reducible refine Below.setCell ?_ ?_ _); rotate_left; (next => ((try dsimp only); (try simp only [World.size_alloc, World.size_setCell, World.size_drew]); omega))) | (with_reducible refine Below.drew ?_) | ((with_reducible refine Below.trans ?_ (Below.mono hb1 ?_)); rotate_left; (next => ((try dsimp only); (try simp only [World.size_alloc, World.size_setCell, World.size_drew]); omega))))))).mono ?_
    rintro e w2 ⟨A, c, rfl, hin2, hb2⟩
    have HT := Lib.hid hin2
    clear hin2
    have z2 := hb2.size
    have c2 := Below.cells hb2
    have f2 := Below.frozens hb2
    try simp only [World.size_alloc, World.size_setCell, World.size_drew] at z2 c2 f2
    go_wp2_with fail
    refine (within_any p 1000 P _ (by omega) (by omega) HP.out).mono ?_
    rintro e w' ⟨rfl, rfl⟩
    go_wp2_with fail
    refine (H2.out A c _ (HT.out.below (by repeat (first | (with_reducible exact Below.refl _ _) | ((with_reducible refine Below.alloc ?_ ?_ _); rotate_left; (next => ((try dsimp only); (try simp only [World.size_alloc, World.size_setCell, World.size_drew]); omega))) | ((with_reducible refine Below.setCell ?_ ?_ _); rotate_left; (next => ((try dsimp only); (try simp only [World.size_alloc, World.size_setCell, World.size_drew]); omega))) | (with_reducible refine Below.drew ?_) | (refine Below.trans ?_ (by assumption)))))).mono ?_
    rintro e w3 ⟨rfl, hb3⟩
    have z3 := hb3.size
    have c3 := Below.cells hb3
    have f3 := Below.frozens hb3
    try simp only [World.size_alloc, World.size_setCell, World.size_drew] at z3 c3 f3
    go_wp2_with fail
    refine (H3.out A c _ (HT.out.below (by repeat (first | (with_reducible exact Below.refl _ _) | ((with_reducible refine Below.alloc ?_ ?_ _); rotate_left; (next => ((try dsimp only); (try simp only [World.size_alloc, World.size_setCell, World.size_drew]); omega))) | ((with_reducible refine Below.setCell ?_ ?_ _); rotate_left; (next => ((try dsimp only); (try simp only [World.size_alloc, World.size_setCell, World.size_drew]); omega))) | (with_reducible refine Below.drew ?_) | ((with_reducible refine Below.trans ?_ (Below.mono hb3 ?_)); rotate_left; (next => ((try dsimp only); (try simp only [World.size_alloc, World.size_setCell, World.size_drew]); omega))))))).mono ?_
    rintro e w4 ⟨rfl, hb4⟩
    have z4 := hb4.size
    have c4 := Below.cells hb4
    have f4 := Below.frozens hb4
    try simp only [World.size_alloc, World.size_setCell, World.size_drew] at z4 c4 f4
    go_wp2_with fail
    refine (H4.out A c _ (HT.out.below (by repeat (first | (with_reducible exact Below.refl _ _) | ((with_reducible refine Below.alloc ?_ ?_ _); rotate_left; (next => ((try dsimp only); (try simp only [World.size_alloc, World.size_setCell, World.size_drew]); omega))) | ((with_reducible refine Below.setCell ?_ ?_ _); rotate_left; (next => ((try dsimp only); (try simp only [World.size_alloc, World.size_setCell, World.size_drew]); omega))) | (with_reducible refine Below.drew ?_) | ((with_reducible refine Below.trans ?_ (Below.mono hb4 ?_)); rotate_left; (next => ((try dsimp only); (try simp only [World.size_alloc, World.size_setCell, World.size_drew]); omega))) | ((with_reducible refine Below.trans ?_ (Below.mono hb3 ?_)); rotate_left; (next => ((try dsimp only); (try simp only [World.size_alloc, World.size_setCell, World.size_drew]); omega))))))).mono ?_
    rintro e w5 ⟨rfl, hb5⟩
    have z5 := hb5.size
    have c5 := Below.cells hb5
    have f5 := Below.frozens hb5
    try simp only [World.size_alloc, World.size_setCell, World.size_drew] at z5 c5 f5
    go_wp2_with fail
    go_ret
    exact ⟨rfl, (by repeat (first | (with_reducible exact Below.refl _ _) | ((with_reducible refine Below.alloc ?_ ?_ _); rotate_left; (next => ((try dsimp only); (try simp only [World.size_alloc, World.size_setCell, World.size_drew]); omega))) | ((with_reducible refine Below.setCell ?_ ?_ _); rotate_left; (next => ((try dsimp only); (try simp only [World.size_alloc, World.size_setCell, World.size_drew]); omega))) | (with_reducible refine Below.drew ?_) | ((with_reducible refine Below.trans ?_ (Below.mono hb5 ?_)); rotate_left; (next => ((try dsimp only); (try simp only [World.size_alloc, World.size_setCell, World.size_drew]); omega))) | ((with_reducible refine Below.trans ?_ (Below.mono hb4 ?_)); rotate_left; (next => ((try dsimp only); (try simp only [World.size_alloc, World.size_setCell, World.size_drew]); omega))) | ((with_reducible refine Below.trans ?_ (Below.mono hb3 ?_)); rotate_left; (next => ((try dsimp only); (try simp only [World.size_alloc, World.size_setCell, World.size_drew]); omega))) | ((with_reducible refine Below.trans ?_ (Below.mono hb2 ?_)); rotate_left; (next => ((try dsimp only); (try simp only [World.size_alloc, World.size_setCell, World.size_drew]); omega))) | ((with_reducible refine Below.trans ?_ (Below.mono hb1 ?_)); rotate_left; (next => ((try dsimp only); (try simp only [World.size_alloc, World.size_setCell, World.size_drew]); omega)))))⟩
end Go.Proofs.Ytamncanlbopehaa

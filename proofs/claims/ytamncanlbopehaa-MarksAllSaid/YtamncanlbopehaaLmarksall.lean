import Derived.Test.YtamncanlbopehaaMl
set_option linter.unusedSimpArgs false
set_option linter.unusedVariables false
namespace Go.Proofs.Ytamncanlbopehaa
open Go.RowKit

set_option maxRecDepth 100000 in
set_option maxHeartbeats 8000000 in
theorem marksAll_walk (a : Option Addr) (len cap : Nat) (l : List Int) (p : Int) (w : World) (hin : InRow w a len cap l) (_ : (Lit.int .i64 p).wf = true) :
    Calls Try.prog 7 #[.slice a len cap, .int .i64 p] w fun e w' =>
      e = .returned (.bool true) ∧ Below w.heap.size w w' := by
  obtain ⟨ts, n, hy, hn, h64, _, _, hget, hbd⟩ := turns_pack l
  have eb := hbd n (Nat.le_refl _)
  obtain ⟨E, hE⟩ : ∃ E, bef ts n = E := ⟨_, rfl⟩
  rw [hE] at eb
  have b1 := within_bd p (n := 100) (by omega)
  obtain ⟨P, e_P⟩ : ∃ z_, within p 100 = z_ := ⟨_, rfl⟩
  rw [e_P] at b1
  have HP := Lib.hid e_P
  clear e_P
  obtain ⟨F, hF⟩ : ∃ F, E + P = F := ⟨_, rfl⟩
  have hmo := turns_mono hn hget (e := F) (by omega) (by omega)
  obtain ⟨B, G, hB, hG, hBG, B0, G0⟩ := marks_pack ts n F hn hmo
  obtain ⟨T, hT⟩ : ∃ T : Int, ((n + 1) / 2 : Nat) = T := ⟨_, rfl⟩
  have hT2 : ((n : Int) + 1).tdiv 2 = T := by rw [Int.tdiv_eq_ediv_of_nonneg (by omega)]; omega
  have h0 := mof_at _ 1 1 [3] 10 7 3 1 _ (in_one w 3) (by omega) ⟨by omega, by decide⟩ (by omega) (by decide) (by decide) (by decide)
  have h1 : ∀ w', InRow w' a len cap l → _ := fun w' h => turns_at a len cap l w' h ts n E hy hn hE
  have h2 : ∀ A c w', InTurns w' A n c ts → _ := fun A c w' h => mof_at A n c ts F B G T w' h h64 hmo (by omega) hB hG hT
  have H0 := Lib.hid h0
  have H1 := Lib.hid h1
  have H2 := Lib.hid h2
  have HIn := Lib.hid hin
  have tb : 0 ≤ T ∧ T ≤ 32 := by omega
  have fb : 0 ≤ F ∧ F ≤ 2000 := by omega
  have hE2 : (B + G == F) = true := by simpa using hBG
  have qa := alloc_cells
  have qf := alloc_frozens
  clear h0 h1 h2 hin hB hG hT hmo hE hget hbd hn hy
  go_enter Try.func7, Try.ntmps7
  go_wp2_with fail
  refine (H0.out).mono ?_
  rintro e w1 ⟨rfl, hb1⟩
  have z1 := hb1.size
  have c1 := Below.cells hb1
  have f1 := Below.frozens hb1
  try simp only [World.size_alloc, World.size_setCell, World.size_drew] at z1 c1 f1
  go_wp2_with fail
  refine (H1.out _ (HIn.out.below (by repeat (first | (with_reducible exact Below.refl _ _) | ((with_reducible refine Below.alloc ?_ ?_ _); rotate_left; (next => ((try dsimp only); (try simp only [World.size_alloc, World.size_setCell, World.size_drew]); omega))) | ((with_reducible refine Below.setCell ?_ ?_ _); rotate_left; (next => ((try dsimp only); (try simp only [World.size_alloc, World.size_setCell, World.size_drew]); omega))) | (with_reducible refine Below.drew ?_) | ((with_reducible refine Below.trans ?_ (Below.mono hb1 ?_)); rotate_left; (next => ((try dsimp only); (try simp only [World.size_alloc, World.size_setCell, World.size_drew]); omega))))))).mono ?_
  rintro e w2 ⟨A, c, rfl, hin2, hb2⟩
  have HT := Lib.hid hin2
  clear hin2
  have z2 := hb2.size
  have c2 := Below.cells hb2
  have f2 := Below.frozens hb2
  try simp only [World.size_alloc, World.size_setCell, World.size_drew] at z2 c2 f2
  go_wp2_with fail
  refine (within_any p 100 P _ (by omega) (by omega) HP.out).mono ?_
  rintro e w' ⟨rfl, rfl⟩
  go_wp2_with fail
  refine (H2.out A c _ (HT.out.below (by repeat (first | (with_reducible exact Below.refl _ _) | ((with_reducible refine Below.alloc ?_ ?_ _); rotate_left; (next => ((try dsimp only); (try simp only [World.size_alloc, World.size_setCell, World.size_drew]); omega))) | ((with_reducible refine Below.setCell ?_ ?_ _); rotate_left; (next => ((try dsimp only); (try simp only [World.size_alloc, World.size_setCell, World.size_drew]); omega))) | (with_reducible refine Below.drew ?_) | (refine Below.trans ?_ (by assumption)))))).mono ?_
  rintro e w3 ⟨rfl, hb3⟩
  have z3 := hb3.size
  have c3 := Below.cells hb3
  have f3 := Below.frozens hb3
  try simp only [World.size_alloc, World.size_setCell, World.size_drew] at z3 c3 f3
  go_wp2_with fail
  go_ret
  exact ⟨rfl, (by repeat (first | (with_reducible exact Below.refl _ _) | ((with_reducible refine Below.alloc ?_ ?_ _); rotate_left; (next => ((try dsimp only); (try simp only [World.size_alloc, World.size_setCell, World.size_drew]); omega))) | ((with_reducible refine Below.setCell ?_ ?_ _); rotate_left; (next => ((try dsimp only); (try simp only [World.size_alloc, World.size_setCell, World.size_drew]); omega))) | (with_reducible refine Below.drew ?_) | ((with_reducible refine Below.trans ?_ (Below.mono hb3 ?_)); rotate_left; (next => ((try dsimp only); (try simp only [World.size_alloc, World.size_setCell, World.size_drew]); omega))) | ((with_reducible refine Below.trans ?_ (Below.mono hb2 ?_)); rotate_left; (next => ((try dsimp only); (try simp only [World.size_alloc, World.size_setCell, World.size_drew]); omega))) | ((with_reducible refine Below.trans ?_ (Below.mono hb1 ?_)); rotate_left; (next => ((try dsimp only); (try simp only [World.size_alloc, World.size_setCell, World.size_drew]); omega)))))⟩
end Go.Proofs.Ytamncanlbopehaa

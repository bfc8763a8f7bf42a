import Derived.Test.YtlaeibpanipefaaRc
set_option linter.unusedSimpArgs false
set_option linter.unusedVariables false
namespace Go.Proofs.Ytlaeibpanipefaa
open Go.RowKit
set_option maxRecDepth 100000 in
set_option maxHeartbeats 16000000 in
theorem voteLevel_walk (a : Option Addr) (len cap : Nat) (l : List Int) (p q : Int) (w : World) (hin : InRow w a len cap l) (_ : (Lit.int .i64 p).wf = true) (_ : (Lit.int .i64 q).wf = true) :
    Calls Try.prog 7 #[.slice a len cap, .int .i64 p, .int .i64 q] w fun e w' =>
      e = .returned (.bool true) ∧ Below w.heap.size w w' := by
  obtain ⟨ys, hy⟩ : ∃ ys, lvls l = ys := ⟨_, rfl⟩
  obtain ⟨n, hn⟩ : ∃ n, ys.length = n := ⟨_, rfl⟩
  have hm : n ≤ 64 := by rw [← hn, ← hy, lvls_len]; omega
  have hb : Btw 0 127 ys := by rw [← hy]; exact lvls_btw l
  have b1 := within_bd p (n := 64) (by omega)
  obtain ⟨P, e_P⟩ : ∃ z_, within p 64 = z_ := ⟨_, rfl⟩
  rw [e_P] at b1
  have HP := Lib.hid e_P
  clear e_P
  have kb : 1 ≤ (1 + P) ∧ (1 + P) ≤ 64 := by omega
  have b2 := within_bd q (n := 60) (by omega)
  obtain ⟨Q, e_Q⟩ : ∃ z_, within q 60 = z_ := ⟨_, rfl⟩
  rw [e_Q] at b2
  have HQ := Lib.hid e_Q
  clear e_Q
  have tb : 1 ≤ 1 + Q ∧ 1 + Q ≤ 60 := by omega
  obtain ⟨f, hf⟩ : ∃ f, cnt (1 + Q) ys = f := ⟨_, rfl⟩
  have fb := cnt_bd (1 + Q) ys
  rw [hf, hn] at fb
  have hlv : ∀ w', InRow w' a len cap l → _ := fun w' h => levels_at a len cap l w' h ys n hy hn
  have hs0 := vlevel_ok _ 3 3 [5, 9, 1] 2 5 1 _ (Row.lit w 3 [5, 9, 1] 3 rfl) (by omega) (by decide) (by omega) (by omega) (by omega) (by rw [srt_591]; rfl)
  simp only [List.map_cons, List.map_nil] at hs0
  have hs1 : ∀ A c w', Row w' A n ys → _ := fun A c w' h => some_ok A n c ys (1 + P) (1 + Q) f w' h hm hb kb tb hf
  have HLv := Lib.hid hlv
  have HS0 := Lib.hid hs0
  have HS1 := Lib.hid hs1
  have HIn := Lib.hid hin
  have qa := alloc_cells
  have qf := alloc_frozens
  by_cases hkn : 1 + P ≤ n
  · obtain ⟨K, hK⟩ := Int.eq_ofNat_of_zero_le (show 0 ≤ (n : Int) - (1 + P) by omega)
    obtain ⟨x, hx⟩ : ∃ x, (srt ys).getD K 0 = x := ⟨_, rfl⟩
    have hgal := kth_iff ys K (by omega) (1 + Q)
    have hmem := kth_mem ys K (by omega)
    rw [hx] at hgal hmem
    rw [hf, hn] at hgal
    have hxb := hb x hmem
    have hs2 : ∀ A c w', Row w' A n ys → _ := fun A c w' h => vlevel_ok A n c ys (1 + P) x K w' h hm hb kb.1 hkn hK hx
    have hs3 : ∀ A c w', Row w' A n ys → _ := fun A c w' h => contains_ok A n c ys x w' h hm hmem
    have HS2 := Lib.hid hs2
    have HS3 := Lib.hid hs3
    have hside : (1 + P ≤ f ∧ 1 + Q ≤ x) ∨ (f < 1 + P ∧ x < 1 + Q) := by
      by_cases c : 1 + Q ≤ x
      · exact .inl ⟨by have := hgal.1 c; omega, c⟩
      · have g : ¬ ((n : Int) - K ≤ f) := fun h => c (hgal.2 h)
        exact .inr ⟨by omega, by omega⟩
    clear hlv hs0 hs1 hs2 hs3 hin hn hy hb hf hgal hmem hx hK
    rcases hside with ⟨s1, s2⟩ | ⟨s1, s2⟩
    all_goals
      go_enter Try.func7, Try.ntmps7
      go_wp2_with fail
      refine (HS0.out).mono ?_
      rintro e w1 ⟨rfl, hb1⟩
      have z1 := hb1.size
      have c1 := Below.cells hb1
      have f1 := Below.frozens hb1
      try simp only [World.size_alloc, World.size_setCell, World.size_drew] at z1 c1 f1
      go_wp2_with fail
      refine (HLv.out _ (HIn.out.below (by repeat (first | (with_reducible exact Below.refl _ _) | ((with_reducible refine Below.alloc ?_ ?_ _); rotate_left; (next => ((try dsimp only); (try simp only [World.size_alloc, World.size_setCell, World.size_drew]); omega))) | ((with_reducible refine Below.setCell ?_ ?_ _); rotate_left; (next => ((try dsimp only); (try simp only [World.size_alloc, World.size_setCell, World.size_drew]); omega))) | (with_reducible refine Below.drew ?_) | ((with_reducible refine Below.trans ?_ (Below.mono hb1 ?_)); rotate_left; (next => ((try dsimp only); (try simp only [World.size_alloc, World.size_setCell, World.size_drew]); omega))))))).mono ?_
      rintro e w2 ⟨A2, cap2, rfl, hrA2, hb2⟩
      have RA2 := Lib.hid hrA2.1
      have EA2 := Lib.hid hrA2.1.each
      have IA2 := Lib.hid hrA2
      have capA2 := hrA2.2.1
      clear hrA2
      have z2 := hb2.size
      have c2 := Below.cells hb2
      have f2 := Below.frozens hb2
      try simp only [World.size_alloc, World.size_setCell, World.size_drew] at z2 c2 f2
      go_wp2_with fail
      refine (within_any p 64 P _ (by omega) (by omega) HP.out).mono ?_
      rintro e w' ⟨rfl, rfl⟩
      go_wp2_with fail
      refine (within_any q 60 Q _ (by omega) (by omega) HQ.out).mono ?_
      rintro e w' ⟨rfl, rfl⟩
      go_wp2_with fail
      refine (HS1.out _ _ _ RA2.out).mono ?_
      rintro e w' ⟨rfl, rfl⟩
      go_wp2_with fail
      refine (HS2.out _ _ _ RA2.out).mono ?_
      rintro e w3 ⟨rfl, hb3⟩
      have z3 := hb3.size
      have c3 := Below.cells hb3
      have f3 := Below.frozens hb3
      try simp only [World.size_alloc, World.size_setCell, World.size_drew] at z3 c3 f3
      go_wp2_with fail
      refine (HS3.out _ _ _ (RA2.out.below hb3)).mono ?_
      rintro e w' ⟨rfl, rfl⟩
      go_wp2_with fail
      go_ret
      exact ⟨rfl, (by repeat (first | (with_reducible exact Below.refl _ _) | ((with_reducible refine Below.alloc ?_ ?_ _); rotate_left; (next => ((try dsimp only); (try simp only [World.size_alloc, World.size_setCell, World.size_drew]); omega))) | ((with_reducible refine Below.setCell ?_ ?_ _); rotate_left; (next => ((try dsimp only); (try simp only [World.size_alloc, World.size_setCell, World.size_drew]); omega))) | (with_reducible refine Below.drew ?_) | ((with_reducible refine Below.trans ?_ (Below.mono hb3 ?_)); rotate_left; (next => ((try dsimp only); (try simp only [World.size_alloc, World.size_setCell, World.size_drew]); omega))) | ((with_reducible refine Below.trans ?_ (Below.mono hb2 ?_)); rotate_left; (next => ((try dsimp only); (try simp only [World.size_alloc, World.size_setCell, World.size_drew]); omega))) | ((with_reducible refine Below.trans ?_ (Below.mono hb1 ?_)); rotate_left; (next => ((try dsimp only); (try simp only [World.size_alloc, World.size_setCell, World.size_drew]); omega)))))⟩
  · have hn1 : (n : Int) < 1 + P := by omega
    have hs2 : ∀ A c w', Row w' A n ys → _ := fun A c w' h => vlevel_none A n c ys (1 + P) w' h hm hb kb.1 kb.2 hn1
    have HS2 := Lib.hid hs2
    have hfn : decide (1 + P ≤ f) = false := by simp; omega
    clear hlv hs0 hs1 hs2 hin hn hy hb hf
    go_enter Try.func7, Try.ntmps7
    go_wp2_with fail
    refine (HS0.out).mono ?_
    rintro e w1 ⟨rfl, hb1⟩
    have z1 := hb1.size
    have c1 := Below.cells hb1
    have f1 := Below.frozens hb1
    try simp only [World.size_alloc, World.size_setCell, World.size_drew] at z1 c1 f1
    go_wp2_with fail
    refine (HLv.out _ (HIn.out.below (by repeat (first | (with_reducible exact Below.refl _ _) | ((with_reducible refine Below.alloc ?_ ?_ _); rotate_left; (next => ((try dsimp only); (try simp only [World.size_alloc, World.size_setCell, World.size_drew]); omega))) | ((with_reducible refine Below.setCell ?_ ?_ _); rotate_left; (next => ((try dsimp only); (try simp only [World.size_alloc, World.size_setCell, World.size_drew]); omega))) | (with_reducible refine Below.drew ?_) | ((with_reducible refine Below.trans ?_ (Below.mono hb1 ?_)); rotate_left; (next => ((try dsimp only); (try simp only [World.size_alloc, World.size_setCell, World.size_drew]); omega))))))).mono ?_
    rintro e w2 ⟨A2, cap2, rfl, hrA2, hb2⟩
    have RA2 := Lib.hid hrA2.1
    have EA2 := Lib.hid hrA2.1.each
    have IA2 := Lib.hid hrA2
    have capA2 := hrA2.2.1
    clear hrA2
    have z2 := hb2.size
    have c2 := Below.cells hb2
    have f2 := Below.frozens hb2
    try simp only [World.size_alloc, World.size_setCell, World.size_drew] at z2 c2 f2
    go_wp2_with fail
    refine (within_any p 64 P _ (by omega) (by omega) HP.out).mono ?_
    rintro e w' ⟨rfl, rfl⟩
    go_wp2_with fail
    refine (within_any q 60 Q _ (by omega) (by omega) HQ.out).mono ?_
    rintro e w' ⟨rfl, rfl⟩
    go_wp2_with fail
    refine (HS1.out _ _ _ RA2.out).mono ?_
    rintro e w' ⟨rfl, rfl⟩
    go_wp2_with fail
    refine (HS2.out _ _ _ RA2.out).mono ?_
    rintro e w' ⟨rfl, rfl⟩
    go_wp2_with fail
    go_ret
    exact ⟨rfl, (by repeat (first | (with_reducible exact Below.refl _ _) | ((with_reducible refine Below.alloc ?_ ?_ _); rotate_left; (next => ((try dsimp only); (try simp only [World.size_alloc, World.size_setCell, World.size_drew]); omega))) | ((with_reducible refine Below.setCell ?_ ?_ _); rotate_left; (next => ((try dsimp only); (try simp only [World.size_alloc, World.size_setCell, World.size_drew]); omega))) | (with_reducible refine Below.drew ?_) | ((with_reducible refine Below.trans ?_ (Below.mono hb2 ?_)); rotate_left; (next => ((try dsimp only); (try simp only [World.size_alloc, World.size_setCell, World.size_drew]); omega))) | ((with_reducible refine Below.trans ?_ (Below.mono hb1 ?_)); rotate_left; (next => ((try dsimp only); (try simp only [World.size_alloc, World.size_setCell, World.size_drew]); omega)))))⟩
end Go.Proofs.Ytlaeibpanipefaa

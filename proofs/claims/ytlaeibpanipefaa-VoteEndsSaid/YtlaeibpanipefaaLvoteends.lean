import Derived.Test.YtlaeibpanipefaaLvotegrows
import Derived.Test.YtlaeibpanipefaaLrankends
set_option linter.unusedSimpArgs false
set_option linter.unusedVariables false
namespace Go.Proofs.Ytlaeibpanipefaa
open Go.RowKit
theorem IsMax.join {a b : List Int} {x z m : Int} (hx : IsMax a x) (h0 : 0 ≤ x) (hz : IsMax (a ++ b) z) (hm : IsMax (0 :: b) m) : z = max x m := by
  have h1 := hz.2 x (by simp [hx.1])
  have h2 : m ≤ z := by
    rcases List.mem_cons.1 hm.1 with h | h
    · omega
    · exact hz.2 m (by simp [h])
  rcases List.mem_append.1 hz.1 with h | h
  · have := hx.2 z h; omega
  · have := hm.2 z (by simp [h]); omega

set_option maxRecDepth 100000 in
set_option maxHeartbeats 16000000 in
theorem voteEnds_walk (a : Option Addr) (len cap : Nat) (l : List Int) (a' : Option Addr) (len' cap' : Nat) (l' : List Int) (w : World) (hin : InRow w a len cap l) (hin' : InRow w a' len' cap' l') :
    Calls Try.prog 10 #[.slice a len cap, .slice a' len' cap'] w fun e w' =>
      e = .returned (.bool true) ∧ Below w.heap.size w w' := by
  obtain ⟨ys, hy⟩ : ∃ ys, lvls l = ys := ⟨_, rfl⟩
  obtain ⟨n, hn⟩ : ∃ n, ys.length = n := ⟨_, rfl⟩
  obtain ⟨zs, hy'⟩ : ∃ ys, lvls l' = ys := ⟨_, rfl⟩
  obtain ⟨m, hn'⟩ : ∃ n, zs.length = n := ⟨_, rfl⟩
  have hm : n ≤ 64 := by rw [← hn, ← hy, lvls_len]; omega
  have hm' : m ≤ 64 := by rw [← hn', ← hy', lvls_len]; omega
  have hb : Btw 0 127 ys := by rw [← hy]; exact lvls_btw l
  have hb' : Btw 0 127 zs := by rw [← hy']; exact lvls_btw l'
  have hlv : ∀ w', InRow w' a len cap l → _ := fun w' h => levels_at a len cap l w' h ys n hy hn
  have hlv' : ∀ w', InRow w' a' len' cap' l' → _ := fun w' h => levels_at a' len' cap' l' w' h zs m hy' hn'
  have hs0 := vlevel_ok _ 3 3 [5, 9, 1] 1 9 2 _ (Row.lit w 3 [5, 9, 1] 3 rfl) (by omega) (by decide) (by omega) (by omega) (by omega) (by rw [srt_591]; rfl)
  simp only [List.map_cons, List.map_nil] at hs0
  have HLv := Lib.hid hlv
  have HLv' := Lib.hid hlv'
  have HS0 := Lib.hid hs0
  have HIn := Lib.hid hin
  have HIn' := Lib.hid hin'
  have qa := alloc_cells
  have qf := alloc_frozens
  by_cases h0 : n = 0
  · have h0' : (n : Int) = 0 := by omega
    clear hlv hlv' hs0 hin hin' hn hy hb hn' hy' hb' h0
    go_enter Try.func10, Try.ntmps10
    go_wp2_with fail
    refine (HS0.out).mono ?_
    rintro e w1 ⟨rfl, hb1⟩
    have z1 := hb1.size
    have c1 := Below.cells hb1
    have f1 := Below.frozens hb1
    try simp only [World.size_alloc, World.size_setCell, World.size_drew] at z1 c1 f1
    go_wp2_with fail
    refine (HLv.out _ (HIn.out.below (by repeat (first | (with_reducible exact Below.refl _ _) | ((with_reducible refine Below.alloc ?_ ?_ _); rotate_left; (next => ((try dsimp only); (try simp only [World.size_alloc, World.size_setCell, World.size_drew]); omega))) | ((with_reducible refine Below.setCell ?_ ?_ _); rotate_left; (next => ((try dsimp only); (try simp only [World.size_alloc, World.size_setCell, World.size_drew]); omega))) | (with_reducible refine Below.drew ?_) | ((with_reducible refine Below.trans ?_ (Below.mono hb1 ?_)); rotate_left; (next => ((try dsimp only); (try simp only [World.size_alloc, World.size_setCell, World.size_drew]); omega))))))).mono ?_
    rintro e w2 ⟨A2, cap2, rfl, hrA2, hb2⟩
    have RA2 := Lib.hid hrA2.1
    have EA2 := Lib.hid hrA2.1.each
    have IA2 := Lib.hid hrA2
    have capA2 := hrA2.2.1
    clear hrA2
    have z2 := hb2.size
    have c2 := Below.cells hb2
    have f2 := Below.frozens hb2
    try simp only [World.size_alloc, World.size_setCell, World.size_drew] at z2 c2 f2
    go_wp2_with fail
    refine (HLv'.out _ (HIn'.out.below (by repeat (first | (with_reducible exact Below.refl _ _) | ((with_reducible refine Below.alloc ?_ ?_ _); rotate_left; (next => ((try dsimp only); (try simp only [World.size_alloc, World.size_setCell, World.size_drew]); omega))) | ((with_reducible refine Below.setCell ?_ ?_ _); rotate_left; (next => ((try dsimp only); (try simp only [World.size_alloc, World.size_setCell, World.size_drew]); omega))) | (with_reducible refine Below.drew ?_) | ((with_reducible refine Below.trans ?_ (Below.mono hb1 ?_)); rotate_left; (next => ((try dsimp only); (try simp only [World.size_alloc, World.size_setCell, World.size_drew]); omega))) | ((with_reducible refine Below.trans ?_ (Below.mono hb2 ?_)); rotate_left; (next => ((try dsimp only); (try simp only [World.size_alloc, World.size_setCell, World.size_drew]); omega))))))).mono ?_
    rintro e w3 ⟨A3, cap3, rfl, hrA3, hb3⟩
    have RA3 := Lib.hid hrA3.1
    have EA3 := Lib.hid hrA3.1.each
    have IA3 := Lib.hid hrA3
    have capA3 := hrA3.2.1
    clear hrA3
    have z3 := hb3.size
    have c3 := Below.cells hb3
    have f3 := Below.frozens hb3
    try simp only [World.size_alloc, World.size_setCell, World.size_drew] at z3 c3 f3
    go_wp2_with fail
    go_ret
    exact ⟨rfl, (by repeat (first | (with_reducible exact Below.refl _ _) | ((with_reducible refine Below.alloc ?_ ?_ _); rotate_left; (next => ((try dsimp only); (try simp only [World.size_alloc, World.size_setCell, World.size_drew]); omega))) | ((with_reducible refine Below.setCell ?_ ?_ _); rotate_left; (next => ((try dsimp only); (try simp only [World.size_alloc, World.size_setCell, World.size_drew]); omega))) | (with_reducible refine Below.drew ?_) | ((with_reducible refine Below.trans ?_ (Below.mono hb3 ?_)); rotate_left; (next => ((try dsimp only); (try simp only [World.size_alloc, World.size_setCell, World.size_drew]); omega))) | ((with_reducible refine Below.trans ?_ (Below.mono hb2 ?_)); rotate_left; (next => ((try dsimp only); (try simp only [World.size_alloc, World.size_setCell, World.size_drew]); omega))) | ((with_reducible refine Below.trans ?_ (Below.mono hb1 ?_)); rotate_left; (next => ((try dsimp only); (try simp only [World.size_alloc, World.size_setCell, World.size_drew]); omega)))))⟩
  have h0' : ¬ (n : Int) = 0 := by omega
  by_cases h2 : 64 < n + m
  · have h2' : (64 : Int) < n + m := by omega
    clear hlv hlv' hs0 hin hin' hn hy hb hn' hy' hb' h0
    go_enter Try.func10, Try.ntmps10
    go_wp2_with fail
    refine (HS0.out).mono ?_
    rintro e w1 ⟨rfl, hb1⟩
    have z1 := hb1.size
    have c1 := Below.cells hb1
    have f1 := Below.frozens hb1
    try simp only [World.size_alloc, World.size_setCell, World.size_drew] at z1 c1 f1
    go_wp2_with fail
    refine (HLv.out _ (HIn.out.below (by repeat (first | (with_reducible exact Below.refl _ _) | ((with_reducible refine Below.alloc ?_ ?_ _); rotate_left; (next => ((try dsimp only); (try simp only [World.size_alloc, World.size_setCell, World.size_drew]); omega))) | ((with_reducible refine Below.setCell ?_ ?_ _); rotate_left; (next => ((try dsimp only); (try simp only [World.size_alloc, World.size_setCell, World.size_drew]); omega))) | (with_reducible refine Below.drew ?_) | ((with_reducible refine Below.trans ?_ (Below.mono hb1 ?_)); rotate_left; (next => ((try dsimp only); (try simp only [World.size_alloc, World.size_setCell, World.size_drew]); omega))))))).mono ?_
    rintro e w2 ⟨A2, cap2, rfl, hrA2, hb2⟩
    have RA2 := Lib.hid hrA2.1
    have EA2 := Lib.hid hrA2.1.each
    have IA2 := Lib.hid hrA2
    have capA2 := hrA2.2.1
    clear hrA2
    have z2 := hb2.size
    have c2 := Below.cells hb2
    have f2 := Below.frozens hb2
    try simp only [World.size_alloc, World.size_setCell, World.size_drew] at z2 c2 f2
    go_wp2_with fail
    refine (HLv'.out _ (HIn'.out.below (by repeat (first | (with_reducible exact Below.refl _ _) | ((with_reducible refine Below.alloc ?_ ?_ _); rotate_left; (next => ((try dsimp only); (try simp only [World.size_alloc, World.size_setCell, World.size_drew]); omega))) | ((with_reducible refine Below.setCell ?_ ?_ _); rotate_left; (next => ((try dsimp only); (try simp only [World.size_alloc, World.size_setCell, World.size_drew]); omega))) | (with_reducible refine Below.drew ?_) | ((with_reducible refine Below.trans ?_ (Below.mono hb1 ?_)); rotate_left; (next => ((try dsimp only); (try simp only [World.size_alloc, World.size_setCell, World.size_drew]); omega))) | ((with_reducible refine Below.trans ?_ (Below.mono hb2 ?_)); rotate_left; (next => ((try dsimp only); (try simp only [World.size_alloc, World.size_setCell, World.size_drew]); omega))))))).mono ?_
    rintro e w3 ⟨A3, cap3, rfl, hrA3, hb3⟩
    have RA3 := Lib.hid hrA3.1
    have EA3 := Lib.hid hrA3.1.each
    have IA3 := Lib.hid hrA3
    have capA3 := hrA3.2.1
    clear hrA3
    have z3 := hb3.size
    have c3 := Below.cells hb3
    have f3 := Below.frozens hb3
    try simp only [World.size_alloc, World.size_setCell, World.size_drew] at z3 c3 f3
    go_wp2_with fail
    go_ret
    exact ⟨rfl, (by repeat (first | (with_reducible exact Below.refl _ _) | ((with_reducible refine Below.alloc ?_ ?_ _); rotate_left; (next => ((try dsimp only); (try simp only [World.size_alloc, World.size_setCell, World.size_drew]); omega))) | ((with_reducible refine Below.setCell ?_ ?_ _); rotate_left; (next => ((try dsimp only); (try simp only [World.size_alloc, World.size_setCell, World.size_drew]); omega))) | (with_reducible refine Below.drew ?_) | ((with_reducible refine Below.trans ?_ (Below.mono hb3 ?_)); rotate_left; (next => ((try dsimp only); (try simp only [World.size_alloc, World.size_setCell, World.size_drew]); omega))) | ((with_reducible refine Below.trans ?_ (Below.mono hb2 ?_)); rotate_left; (next => ((try dsimp only); (try simp only [World.size_alloc, World.size_setCell, World.size_drew]); omega))) | ((with_reducible refine Below.trans ?_ (Below.mono hb1 ?_)); rotate_left; (next => ((try dsimp only); (try simp only [World.size_alloc, World.size_setCell, World.size_drew]); omega)))))⟩
  · have h2' : ¬ (64 : Int) < n + m := by omega
    have hlen : (ys ++ zs).length = n + m := by simp [hn, hn']
    have hbb : Btw 0 127 (ys ++ zs) := fun x hx => by
      rcases List.mem_append.1 hx with h | h
      · exact hb x h
      · exact hb' x h
    obtain ⟨xa, hxa⟩ : ∃ x, (srt ys).getD (n - 1) 0 = x := ⟨_, rfl⟩
    obtain ⟨xb, hxb⟩ : ∃ x, (srt ys).getD 0 0 = x := ⟨_, rfl⟩
    obtain ⟨xc, hxc⟩ : ∃ x, (srt (ys ++ zs)).getD (n + m - 1) 0 = x := ⟨_, rfl⟩
    obtain ⟨M, hM⟩ := IsMax.ex (l := 0 :: zs) (by simp)
    have hmax := srt_max ys (by omega)
    have hmin := srt_min ys (by omega)
    have hmax2 := srt_max (ys ++ zs) (by omega)
    rw [hn, hxa] at hmax
    rw [hxb] at hmin
    rw [hlen, hxc] at hmax2
    have xa0 : 0 ≤ xa := (hb xa hmax.1).1
    have hjoin : xc = max xa M := hmax.join xa0 hmax2 hM
    have hjoin' : max xa M = xc := hjoin.symm
    have hs1 : ∀ A c w', Row w' A n ys → _ := fun A c w' h => vlevel_ok A n c ys 1 xa (n - 1) w' h hm hb (by omega) (by omega) (by omega) hxa
    have hs2 : ∀ A c w', Row w' A n ys → _ := fun A c w' h => vlevel_ok A n c ys n xb 0 w' h hm hb (by omega) (by omega) (by omega) hxb
    have hs3 : ∀ A c w', Row w' A (n + m) (ys ++ zs) → _ := fun A c w' h => vlevel_ok A (n + m) c (ys ++ zs) 1 xc (n + m - 1) w' h (by omega) hbb (by omega) (by omega) (by omega) hxc
    have hs4 : ∀ A c w', Row w' A n ys → _ := fun A c w' h => max_ok A n c ys xa w' h (by omega) (by omega) hmax
    have hs6 : ∀ A c w', Row w' A n ys → _ := fun A c w' h => min_ok A n c ys xb w' h (by omega) (by omega) hmin
    have hs7 : ∀ A c w', Row w' A (1 + m) ([0] ++ zs) → _ := fun A c w' h => max_ok A (1 + m) c ([0] ++ zs) M w' h (by omega) (by omega) hM
    have hs5 : ∀ (A A' : Option Addr) (c c' : Nat) (w' : World) (B : Nat), InRow w' A n c ys → InRow w' A' m c' zs → w'.cell? ⟨B, 0, none⟩ = some (.slice A n c) → w'.cell? ⟨B, 1, none⟩ = some (.slice A' m c') →
        Calls Try.prog 30 #[.slice (some ⟨B, 0, none⟩) 2 2] w' fun e w'' => ∃ u, e = .returned u ∧ OwnedRow (n + m) (ys ++ zs) u w'' ∧ Below w'.heap.size w' w'' := fun A A' c c' w' B h h' e1 e2 => by
      refine (concat_ok B _ _ _ _ _ _ ys zs w' e1 e2 (World.block_lt_of_cell? w' _ e1) h h' (by omega) (by omega)).mono ?_
      rintro e w'' ⟨A2, c2, rfl, g1, _, g3⟩
      exact ⟨_, rfl, ⟨A2, c2, rfl, g1⟩, g3⟩
    have HS1 := Lib.hid hs1
    have HS2 := Lib.hid hs2
    have HS3 := Lib.hid hs3
    have HS4 := Lib.hid hs4
    have HS5 := Lib.hid hs5
    have HS6 := Lib.hid hs6
    have HS7 := Lib.hid hs7
    obtain ⟨i0, hi, hz0, hz1, hz2⟩ := info_parts info_int
    clear hlv hlv' hs0 hs1 hs2 hs3 hs4 hs5 hs6 hs7 hin hin' hn hy hb hn' hy' hb' hxa hxb hxc hmax hmin hmax2 hbb hlen hM h0 xa0 hjoin
    go_enter Try.func10, Try.ntmps10
    go_wp2_with fail
    refine (HS0.out).mono ?_
    rintro e w1 ⟨rfl, hb1⟩
    have z1 := hb1.size
    have c1 := Below.cells hb1
    have f1 := Below.frozens hb1
    try simp only [World.size_alloc, World.size_setCell, World.size_drew] at z1 c1 f1
    go_wp2_with fail
    refine (HLv.out _ (HIn.out.below (by repeat (first | (with_reducible exact Below.refl _ _) | ((with_reducible refine Below.alloc ?_ ?_ _); rotate_left; (next => ((try dsimp only); (try simp only [World.size_alloc, World.size_setCell, World.size_drew]); omega))) | ((with_reducible refine Below.setCell ?_ ?_ _); rotate_left; (next => ((try dsimp only); (try simp only [World.size_alloc, World.size_setCell, World.size_drew]); omega))) | (with_reducible refine Below.drew ?_) | ((with_reducible refine Below.trans ?_ (Below.mono hb1 ?_)); rotate_left; (next => ((try dsimp only); (try simp only [World.size_alloc, World.size_setCell, World.size_drew]); omega))))))).mono ?_
    rintro e w2 ⟨A2, cap2, rfl, hrA2, hb2⟩
    have RA2 := Lib.hid hrA2.1
    have EA2 := Lib.hid hrA2.1.each
    have IA2 := Lib.hid hrA2
    have capA2 := hrA2.2.1
    clear hrA2
    have z2 := hb2.size
    have c2 := Below.cells hb2
    have f2 := Below.frozens hb2
    try simp only [World.size_alloc, World.size_setCell, World.size_drew] at z2 c2 f2
    go_wp2_with fail
    refine (HLv'.out _ (HIn'.out.below (by repeat (first | (with_reducible exact Below.refl _ _) | ((with_reducible refine Below.alloc ?_ ?_ _); rotate_left; (next => ((try dsimp only); (try simp only [World.size_alloc, World.size_setCell, World.size_drew]); omega))) | ((with_reducible refine Below.setCell ?_ ?_ _); rotate_left; (next => ((try dsimp only); (try simp only [World.size_alloc, World.size_setCell, World.size_drew]); omega))) | (with_reducible refine Below.drew ?_) | ((with_reducible refine Below.trans ?_ (Below.mono hb1 ?_)); rotate_left; (next => ((try dsimp only); (try simp only [World.size_alloc, World.size_setCell, World.size_drew]); omega))) | ((with_reducible refine Below.trans ?_ (Below.mono hb2 ?_)); rotate_left; (next => ((try dsimp only); (try simp only [World.size_alloc, World.size_setCell, World.size_drew]); omega))))))).mono ?_
    rintro e w3 ⟨A3, cap3, rfl, hrA3, hb3⟩
    have RA3 := Lib.hid hrA3.1
    have EA3 := Lib.hid hrA3.1.each
    have IA3 := Lib.hid hrA3
    have capA3 := hrA3.2.1
    clear hrA3
    have z3 := hb3.size
    have c3 := Below.cells hb3
    have f3 := Below.frozens hb3
    try simp only [World.size_alloc, World.size_setCell, World.size_drew] at z3 c3 f3
    go_wp2_with fail
    next hx => exfalso; rcases hx with hx | hx; exact h0' (by simpa using hx); omega
    have R2 := Lib.hid (RA2.out.below hb3)
    have I2 := Lib.hid (IA2.out.below hb3)
    clear RA2 IA2 EA2 EA3
    refine (HS1.out _ _ _ R2.out).mono ?_
    rintro e w4 ⟨rfl, hb4⟩
    have z4 := hb4.size
    have c4 := Below.cells hb4
    have f4 := Below.frozens hb4
    try simp only [World.size_alloc, World.size_setCell, World.size_drew] at z4 c4 f4
    go_wp2_with fail
    refine (HS2.out _ _ _ (R2.out.below (by repeat (first | (with_reducible exact Below.refl _ _) | ((with_reducible refine Below.alloc ?_ ?_ _); rotate_left; (next => ((try dsimp only); (try simp only [World.size_alloc, World.size_setCell, World.size_drew]); omega))) | ((with_reducible refine Below.setCell ?_ ?_ _); rotate_left; (next => ((try dsimp only); (try simp only [World.size_alloc, World.size_setCell, World.size_drew]); omega))) | (with_reducible refine Below.drew ?_) | ((with_reducible refine Below.trans ?_ (Below.mono hb4 ?_)); rotate_left; (next => ((try dsimp only); (try simp only [World.size_alloc, World.size_setCell, World.size_drew]); omega))))))).mono ?_
    rintro e w5 ⟨rfl, hb5⟩
    have z5 := hb5.size
    have c5 := Below.cells hb5
    have f5 := Below.frozens hb5
    try simp only [World.size_alloc, World.size_setCell, World.size_drew] at z5 c5 f5
    go_wp2_with fail
    have hb9 : Below w3.heap.size w3 w5 := (by repeat (first | (with_reducible exact Below.refl _ _) | ((with_reducible refine Below.alloc ?_ ?_ _); rotate_left; (next => ((try dsimp only); (try simp only [World.size_alloc, World.size_setCell, World.size_drew]); omega))) | ((with_reducible refine Below.setCell ?_ ?_ _); rotate_left; (next => ((try dsimp only); (try simp only [World.size_alloc, World.size_setCell, World.size_drew]); omega))) | (with_reducible refine Below.drew ?_) | ((with_reducible refine Below.trans ?_ (Below.mono hb5 ?_)); rotate_left; (next => ((try dsimp only); (try simp only [World.size_alloc, World.size_setCell, World.size_drew]); omega))) | ((with_reducible refine Below.trans ?_ (Below.mono hb4 ?_)); rotate_left; (next => ((try dsimp only); (try simp only [World.size_alloc, World.size_setCell, World.size_drew]); omega)))))
    have I9 := Lib.hid (I2.out.below hb9)
    have I9' := Lib.hid (IA3.out.below hb9)
    have z9 := hb9.size
    clear c4 f4 c5 f5 c1 f1 c2 f2 c3 f3
    have cc := alloc_cells w5
    refine (HS5.out A2 A3 cap2 cap3 _ w5.heap.size (I9.out.below ((Below.refl _ _).alloc (Nat.le_refl _) _)) (I9'.out.below ((Below.refl _ _).alloc (Nat.le_refl _) _)) (by simp [go_sem]) (by simp [go_sem])).mono ?_
    rintro e w6 ⟨u6, rfl, ⟨A6, k6, rfl, I6⟩, hb6⟩
    have z6 := hb6.size
    simp only [World.size_alloc] at z6
    have R6 := Lib.hid I6.1
    clear I6
    go_wp2_with fail
    refine (HS3.out _ _ _ R6.out).mono ?_
    rintro e w7 ⟨rfl, hb7⟩
    have z7 := hb7.size
    have c7 := Below.cells hb7
    have f7 := Below.frozens hb7
    try simp only [World.size_alloc, World.size_setCell, World.size_drew] at z7 c7 f7
    go_wp2_with fail
    have hb10 : Below w3.heap.size w3 w7 := (by repeat (first | (with_reducible exact Below.refl _ _) | ((with_reducible refine Below.alloc ?_ ?_ _); rotate_left; (next => ((try dsimp only); (try simp only [World.size_alloc, World.size_setCell, World.size_drew]); omega))) | ((with_reducible refine Below.setCell ?_ ?_ _); rotate_left; (next => ((try dsimp only); (try simp only [World.size_alloc, World.size_setCell, World.size_drew]); omega))) | (with_reducible refine Below.drew ?_) | ((with_reducible refine Below.trans ?_ (Below.mono hb7 ?_)); rotate_left; (next => ((try dsimp only); (try simp only [World.size_alloc, World.size_setCell, World.size_drew]); omega))) | ((with_reducible refine Below.trans ?_ (Below.mono hb6 ?_)); rotate_left; (next => ((try dsimp only); (try simp only [World.size_alloc, World.size_setCell, World.size_drew]); omega))) | ((with_reducible refine Below.trans ?_ (Below.mono hb5 ?_)); rotate_left; (next => ((try dsimp only); (try simp only [World.size_alloc, World.size_setCell, World.size_drew]); omega))) | ((with_reducible refine Below.trans ?_ (Below.mono hb4 ?_)); rotate_left; (next => ((try dsimp only); (try simp only [World.size_alloc, World.size_setCell, World.size_drew]); omega)))))
    have z10 := hb10.size
    refine (HS4.out _ _ _ (R2.out.below hb10)).mono ?_
    rintro e w' ⟨rfl, rfl⟩
    go_wp2_with fail
    have own1 : ∀ T, (w7.alloc (.cells #[.int .i64 0] T)).ownsRow w7.heap.size T 1 (.slice (some ⟨w7.heap.size, 0, none⟩) 1 1) 1 (([0] : List Int).map (Value.int .i64)) := fun T => ⟨rfl, .inr ⟨w7.heap.size, 1, #[.int .i64 0], rfl, Nat.le_refl _, heap_alloc_new _ _, Nat.le_refl _, by decide, rfl, rfl⟩⟩
    have I7 := Lib.hid (IA3.out.below hb10)
    refine (HS6.out _ _ _ (R2.out.below hb10)).mono ?_
    rintro e w' ⟨rfl, rfl⟩
    go_wp2_with (at_builtin; refine wpList_append_row (by simp [go_sem]) _ _ 22 rfl w7.heap.size 3 i0 Try.underlying22 hi hz0 hz1 hz2 _ 1 [0] rfl (own1 _) A3 m cap3 zs rfl (I7.out.below ((Below.refl _ _).alloc (Nat.le_refl _) _)) (by omega) (by simp) ?_)
    intro v8 w8 own8 gr8
    obtain ⟨A8, k8, rfl, p8, q8, n8⟩ := own_form own8
    have own9 : w8.ownsRow w7.heap.size 3 1 (.slice A8 (1 + m) k8) (1 + m) (([0] ++ zs).map (Value.int .i64)) := own8
    have R8 := Lib.hid (Row.of_own own9)
    have hb8 := ((Below.refl w7.heap.size w7).alloc (Nat.le_refl _) _).grown gr8 (by simp) (fun g hg => ((own1 3).lt g hg).1)
    have z8 := hb8.size
    clear own8 own9 gr8 own1
    go_wp2_with fail
    refine (HS7.out _ _ _ R8.out).mono ?_
    rintro e w' ⟨rfl, rfl⟩
    go_wp2_with fail
    go_ret
    refine ⟨by simp [hjoin'], (by repeat (first | (with_reducible exact Below.refl _ _) | ((with_reducible refine Below.alloc ?_ ?_ _); rotate_left; (next => ((try dsimp only); (try simp only [World.size_alloc, World.size_setCell, World.size_drew]); omega))) | ((with_reducible refine Below.setCell ?_ ?_ _); rotate_left; (next => ((try dsimp only); (try simp only [World.size_alloc, World.size_setCell, World.size_drew]); omega))) | (with_reducible refine Below.drew ?_) | ((with_reducible refine Below.trans ?_ (Below.mono hb8 ?_)); rotate_left; (next => ((try dsimp only); (try simp only [World.size_alloc, World.size_setCell, World.size_drew]); omega))) | ((with_reducible refine Below.trans ?_ (Below.mono hb7 ?_)); rotate_left; (next => ((try dsimp only); (try simp only [World.size_alloc, World.size_setCell, World.size_drew]); omega))) | ((with_reducible refine Below.trans ?_ (Below.mono hb6 ?_)); rotate_left; (next => ((try dsimp only); (try simp only [World.size_alloc, World.size_setCell, World.size_drew]); omega))) | ((with_reducible refine Below.trans ?_ (Below.mono hb5 ?_)); rotate_left; (next => ((try dsimp only); (try simp only [World.size_alloc, World.size_setCell, World.size_drew]); omega))) | ((with_reducible refine Below.trans ?_ (Below.mono hb4 ?_)); rotate_left; (next => ((try dsimp only); (try simp only [World.size_alloc, World.size_setCell, World.size_drew]); omega))) | ((with_reducible refine Below.trans ?_ (Below.mono hb3 ?_)); rotate_left; (next => ((try dsimp only); (try simp only [World.size_alloc, World.size_setCell, World.size_drew]); omega))) | ((with_reducible refine Below.trans ?_ (Below.mono hb2 ?_)); rotate_left; (next => ((try dsimp only); (try simp only [World.size_alloc, World.size_setCell, World.size_drew]); omega))) | ((with_reducible refine Below.trans ?_ (Below.mono hb1 ?_)); rotate_left; (next => ((try dsimp only); (try simp only [World.size_alloc, World.size_setCell, World.size_drew]); omega)))))⟩
end Go.Proofs.Ytlaeibpanipefaa

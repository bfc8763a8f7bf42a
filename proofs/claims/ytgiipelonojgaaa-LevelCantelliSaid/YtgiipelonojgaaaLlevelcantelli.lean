import Derived.Test.YtgiipelonojgaaaLw
import Derived.Test.YtgiipelonojgaaaCn
set_option linter.unusedSimpArgs false
set_option linter.unusedVariables false
namespace Go.Proofs.Ytgiipelonojgaaa
open Go.RowKit

/-- Cantelli: of all values no more than that part, halved as often as the level says. -/
theorem lev_cantelli {l : List Int} {n : Nat} {T S X L N k f : Int} (hn : l.length = n) (n1 : 1 ≤ n) (hS : sumI l = S) (hX : spr l = X) (hX0 : 0 ≤ X) (hN : lfl n X L = N) (N1 : 1 ≤ N)
    (hk : LevR N (late0 n S T) k) (hf : cnt T l = f) : f * 2 ^ k.toNat ≤ n := by
  have fb := cnt_bd T l
  rw [hf, hn] at fb
  obtain ⟨k0, _, k2, _⟩ := hk
  by_cases c : 0 < (n : Int) * T - S
  · have e : late0 n S T = n * T - S := by unfold late0; rw [if_pos c]
    rw [e] at k2
    have hc := cantelli (l := l) (n := n) (t := T) (by omega) hS hX rfl c
    rw [hf] at hc
    obtain ⟨D, hD⟩ : ∃ D, (n : Int) * T - S = D := ⟨_, rfl⟩
    rw [hD] at hc k2
    have XN : X ≤ N := by unfold lfl at hN; split at hN <;> omega
    obtain ⟨G, hG⟩ : ∃ G : Int, D * D = G := ⟨_, rfl⟩
    obtain ⟨P, hP⟩ : ∃ P : Int, 2 ^ k.toNat = P := ⟨_, rfl⟩
    rw [hG] at hc k2
    rw [hP] at k2 ⊢
    -- f (X + G) <= n X; so f G <= (n - f) X <= (n - f) N
    have a1 : f * (X + G) = f * X + f * G := Int.mul_add _ _ _
    have a2 : (n - f) * X ≤ (n - f) * N := Int.mul_le_mul_of_nonneg_left XN (by omega)
    rw [Int.sub_mul, Int.sub_mul] at a2
    have a3 : f * (N * P) ≤ f * (N + G) := Int.mul_le_mul_of_nonneg_left k2 fb.1
    rw [Int.mul_add] at a3
    have a4 : f * P * N ≤ n * N := by
      have : f * P * N = f * (N * P) := by rw [Int.mul_assoc, Int.mul_comm P N]
      omega
    exact Int.le_of_mul_le_mul_right a4 (by omega)
  · have e : late0 n S T = 0 := by unfold late0; rw [if_neg c]
    rw [e] at k2
    have kz : k = 0 := by
      rcases Int.lt_or_le 0 k with q | q
      · have p : (2 : Int) ^ 1 ≤ 2 ^ k.toNat := pow_le (by omega)
        have := Int.mul_le_mul_of_nonneg_left p (show 0 ≤ N by omega)
        omega
      · omega
    subst kz
    simpa using fb.2

theorem pow_seven {k : Int} (hk : 0 ≤ k) {f n : Int} (hf : 1 ≤ f) (hn : n ≤ 64) (h : f * 2 ^ k.toNat ≤ n) : k < 7 := by
  rcases Int.lt_or_le k 7 with q | q
  · exact q
  · have p : (2 : Int) ^ 7 ≤ 2 ^ k.toNat := pow_le (by omega)
    have := Int.mul_le_mul hf p (by omega) (by omega)
    omega

set_option maxRecDepth 100000 in
set_option maxHeartbeats 16000000 in
theorem levelCantelli_walk (a : Option Addr) (len cap : Nat) (l : List Int) (p q : Int) (w : World) (hin : InRow w a len cap l) (_ : (Lit.int .i64 p).wf = true) (_ : (Lit.int .i64 q).wf = true) :
    Calls Try.prog 14 #[.slice a len cap, .int .i64 p, .int .i64 q] w fun e w' =>
      e = .returned (.bool true) ∧ Below w.heap.size w w' := by
  obtain ⟨ys, n, S, Q, X, hy, hn, h1, hm, hb, hS, hQ, hX, ok, Xb⟩ := lev_pack l
  have b1 := within_bd p (n := 1000) (by omega)
  have b2 := within_bd q (n := 16777226) (by omega)
  obtain ⟨P, e_P⟩ : ∃ z_, within p 1000 = z_ := ⟨_, rfl⟩
  rw [e_P] at b1
  have HP := Lib.hid e_P
  clear e_P
  obtain ⟨T, e_T⟩ : ∃ z_, within q 16777226 = z_ := ⟨_, rfl⟩
  rw [e_T] at b2
  have HT := Lib.hid e_T
  clear e_T
  have bd := ok.bd
  obtain ⟨L, hL⟩ : ∃ L, 1 + P = L := ⟨_, rfl⟩
  have Lb : 1 ≤ L ∧ L ≤ 10000 := by omega
  obtain ⟨N, hN⟩ : ∃ N, lfl n X L = N := ⟨_, rfl⟩
  have Nb := lfl_bd (n := n) (L := L) (by omega) Xb (by omega)
  rw [hN] at Nb
  have Db := late0_bd (n := n) (S := S) (T := T) (by omega) (by omega) (by omega)
  obtain ⟨k, hk⟩ := levR_ex Nb Db
  have k0 := hk.1
  obtain ⟨f, hf⟩ : ∃ f, cnt T ys = f := ⟨_, rfl⟩
  have fb := cnt_bd T ys
  rw [hf, hn] at fb
  have hX' : spr ys = X := by rw [← hX, ← hS, ← hQ]; unfold spr; rw [hn]
  have main := lev_cantelli hn h1 hS hX' Xb.1 hN Nb.1 hk hf
  have hwin : ∀ w', InRow w' a len cap l → _ := fun w' h => window_any a len cap l w' h ys n hy hn
  have hlev : ∀ A c w', Row w' A n ys → _ := fun A c w' h => level_ok 64 L T S Q X N k A n c ys w' h (by omega) (by omega) (by omega) hb (by omega) (by omega) hS hQ ok hX hN hk
  have hcnt : ∀ A c w', Row w' A n ys → _ := fun A c w' h => same_below (count_ok A n c ys T f w' h (by omega) hb hf)
  have HWin := Lib.hid hwin
  have HLev := Lib.hid hlev
  have HCnt := Lib.hid hcnt
  have HIn := Lib.hid hin
  have qa := alloc_cells
  have qf := alloc_frozens
  have cs : f = 0 ∨ (¬ f = 0 ∧ (f == 0) = false ∧ k < 7 ∧ decide (k < 7) = true ∧ ∃ F : Int, F ≤ n ∧ f * 2 ^ k.toNat = F ∧ 0 ≤ F) := by
    by_cases c : f = 0
    · exact .inl c
    · have k7 := pow_seven k0 (f := f) (n := n) (by omega) (by omega) main
      exact .inr ⟨c, by simpa using c, k7, by simpa using k7, _, main, rfl, Int.mul_nonneg fb.1 (Int.le_of_lt (p2 _))⟩
  clear hwin hlev hcnt hin hb hn hy hS hQ hX ok hN hk hf hX' main
  have dk : decide (0 ≤ k) = true := by simpa using k0
  rcases cs with rfl | ⟨c1, c2, c3, c4, F, F1, F2, F3⟩
  · go_enter Try.func14, Try.ntmps14
    go_wp2_with fail
    refine (lbegun_ok _).mono ?_
    rintro e w1 ⟨rfl, hb1⟩
    have z1 := hb1.size
    have c1 := Below.cells hb1
    have f1 := Below.frozens hb1
    try simp only [World.size_alloc, World.size_setCell, World.size_drew] at z1 c1 f1
    go_wp2_with fail
    refine (HWin.out _ (HIn.out.below (by repeat (first | (with_reducible exact Below.refl _ _) | ((with_reducible refine Below.alloc ?_ ?_ _); rotate_left; (next => ((try dsimp only); (try simp only [World.size_alloc, World.size_setCell, World.size_drew]); omega))) | ((with_reducible refine Below.setCell ?_ ?_ _); rotate_left; (next => ((try dsimp only); (try simp only [World.size_alloc, World.size_setCell, World.size_drew]); omega))) | (with_reducible refine Below.drew ?_) | ((with_reducible refine Below.trans ?_ (Below.mono hb1 ?_)); rotate_left; (next => ((try dsimp only); (try simp only [World.size_alloc, World.size_setCell, World.size_drew]); omega))))))).mono ?_
    rintro e w2 ⟨A, c, rfl, hrA, hb2⟩
    have RA := Lib.hid hrA.1
    clear hrA
    have z2 := hb2.size
    have c2 := Below.cells hb2
    have f2 := Below.frozens hb2
    try simp only [World.size_alloc, World.size_setCell, World.size_drew] at z2 c2 f2
    go_wp2_with fail
    refine (within_any p 1000 P _ (by omega) (by omega) HP.out).mono ?_
    rintro e w' ⟨rfl, rfl⟩
    go_wp2_with fail
    refine (within_any q 16777226 T _ (by omega) (by omega) HT.out).mono ?_
    rintro e w' ⟨rfl, rfl⟩
    go_wp2_with fail
    refine (HLev.out A c _ (RA.out.below (by repeat (first | (with_reducible exact Below.refl _ _) | ((with_reducible refine Below.alloc ?_ ?_ _); rotate_left; (next => ((try dsimp only); (try simp only [World.size_alloc, World.size_setCell, World.size_drew]); omega))) | ((with_reducible refine Below.setCell ?_ ?_ _); rotate_left; (next => ((try dsimp only); (try simp only [World.size_alloc, World.size_setCell, World.size_drew]); omega))) | (with_reducible refine Below.drew ?_) | (refine Below.trans ?_ (by assumption)))))).mono ?_
    rintro e w3 ⟨rfl, hb3⟩
    have z3 := hb3.size
    have c3 := Below.cells hb3
    have f3 := Below.frozens hb3
    try simp only [World.size_alloc, World.size_setCell, World.size_drew] at z3 c3 f3
    go_wp2_with fail
    refine (HCnt.out A c _ (RA.out.below (by repeat (first | (with_reducible exact Below.refl _ _) | ((with_reducible refine Below.alloc ?_ ?_ _); rotate_left; (next => ((try dsimp only); (try simp only [World.size_alloc, World.size_setCell, World.size_drew]); omega))) | ((with_reducible refine Below.setCell ?_ ?_ _); rotate_left; (next => ((try dsimp only); (try simp only [World.size_alloc, World.size_setCell, World.size_drew]); omega))) | (with_reducible refine Below.drew ?_) | ((with_reducible refine Below.trans ?_ (Below.mono hb3 ?_)); rotate_left; (next => ((try dsimp only); (try simp only [World.size_alloc, World.size_setCell, World.size_drew]); omega))))))).mono ?_
    rintro e w4 ⟨rfl, hb4⟩
    have z4 := hb4.size
    have c4 := Below.cells hb4
    have f4 := Below.frozens hb4
    try simp only [World.size_alloc, World.size_setCell, World.size_drew] at z4 c4 f4
    go_wp2_with fail
    refine wp_region_quiet_all (Ext _) (by kernel_rfl) (by kernel_rfl) (Ext.drawn _) ?_
    repeat (first | go_big_quiet_skip | go_big_quiet_step (fail) | (refine BigFrame.wpQuiet_want rfl (fun K hK => ?_); apply Exists.intro; refine ⟨fun w2 h2 => ?_, ?_⟩; (next => (have g1 := Below.cells h2.below; have g2 := Below.frozens h2.below; (try simp only [World.size_alloc, World.size_setCell] at g1 g2); first | (go_simp; (fail)) | (simp [go_sem, ↓IntWalk.iteOmega, *]; done) | (simp [go_sem, ↓IntWalk.iteOmega, *]; rfl)))); (go_simp; refine hK _ ?_; clear hK K))
    refine wpQuiet_nil ?_
    intro w5 h5
    have hb5 := h5.below
    clear h5
    have z5 := hb5.size
    have c5 := Below.cells hb5
    have f5 := Below.frozens hb5
    try simp only [World.size_alloc, World.size_setCell, World.size_drew] at z5 c5 f5
    go_wp2_with fail
    go_ret
    exact ⟨rfl, (by repeat (first | (with_reducible exact Below.refl _ _) | ((with_reducible refine Below.alloc ?_ ?_ _); rotate_left; (next => ((try dsimp only); (try simp only [World.size_alloc, World.size_setCell, World.size_drew]); omega))) | ((with_reducible refine Below.setCell ?_ ?_ _); rotate_left; (next => ((try dsimp only); (try simp only [World.size_alloc, World.size_setCell, World.size_drew]); omega))) | (with_reducible refine Below.drew ?_) | ((with_reducible refine Below.trans ?_ (Below.mono hb5 ?_)); rotate_left; (next => ((try dsimp only); (try simp only [World.size_alloc, World.size_setCell, World.size_drew]); omega))) | ((with_reducible refine Below.trans ?_ (Below.mono hb4 ?_)); rotate_left; (next => ((try dsimp only); (try simp only [World.size_alloc, World.size_setCell, World.size_drew]); omega))) | ((with_reducible refine Below.trans ?_ (Below.mono hb3 ?_)); rotate_left; (next => ((try dsimp only); (try simp only [World.size_alloc, World.size_setCell, World.size_drew]); omega))) | ((with_reducible refine Below.trans ?_ (Below.mono hb2 ?_)); rotate_left; (next => ((try dsimp only); (try simp only [World.size_alloc, World.size_setCell, World.size_drew]); omega))) | ((with_reducible refine Below.trans ?_ (Below.mono hb1 ?_)); rotate_left; (next => ((try dsimp only); (try simp only [World.size_alloc, World.size_setCell, World.size_drew]); omega)))))⟩
  · have e1 : IntKind.i64.wrap F = F := IntWalk.i64_in _ (by omega)
    have e2 : decide (F ≤ (n : Int)) = true := by simpa using F1
    go_enter Try.func14, Try.ntmps14
    go_wp2_with fail
    refine (lbegun_ok _).mono ?_
    rintro e w1 ⟨rfl, hb1⟩
    have z1 := hb1.size
    have c1 := Below.cells hb1
    have f1 := Below.frozens hb1
    try simp only [World.size_alloc, World.size_setCell, World.size_drew] at z1 c1 f1
    go_wp2_with fail
    refine (HWin.out _ (HIn.out.below (by repeat (first | (with_reducible exact Below.refl _ _) | ((with_reducible refine Below.alloc ?_ ?_ _); rotate_left; (next => ((try dsimp only); (try simp only [World.size_alloc, World.size_setCell, World.size_drew]); omega))) | ((with_reducible refine Below.setCell ?_ ?_ _); rotate_left; (next => ((try dsimp only); (try simp only [World.size_alloc, World.size_setCell, World.size_drew]); omega))) | (with_reducible refine Below.drew ?_) | ((with_reducible refine Below.trans ?_ (Below.mono hb1 ?_)); rotate_left; (next => ((try dsimp only); (try simp only [World.size_alloc, World.size_setCell, World.size_drew]); omega))))))).mono ?_
    rintro e w2 ⟨A, c, rfl, hrA, hb2⟩
    have RA := Lib.hid hrA.1
    clear hrA
    have z2 := hb2.size
    have c2 := Below.cells hb2
    have f2 := Below.frozens hb2
    try simp only [World.size_alloc, World.size_setCell, World.size_drew] at z2 c2 f2
    go_wp2_with fail
    refine (within_any p 1000 P _ (by omega) (by omega) HP.out).mono ?_
    rintro e w' ⟨rfl, rfl⟩
    go_wp2_with fail
    refine (within_any q 16777226 T _ (by omega) (by omega) HT.out).mono ?_
    rintro e w' ⟨rfl, rfl⟩
    go_wp2_with fail
    refine (HLev.out A c _ (RA.out.below (by repeat (first | (with_reducible exact Below.refl _ _) | ((with_reducible refine Below.alloc ?_ ?_ _); rotate_left; (next => ((try dsimp only); (try simp only [World.size_alloc, World.size_setCell, World.size_drew]); omega))) | ((with_reducible refine Below.setCell ?_ ?_ _); rotate_left; (next => ((try dsimp only); (try simp only [World.size_alloc, World.size_setCell, World.size_drew]); omega))) | (with_reducible refine Below.drew ?_) | (refine Below.trans ?_ (by assumption)))))).mono ?_
    rintro e w3 ⟨rfl, hb3⟩
    have z3 := hb3.size
    have c3 := Below.cells hb3
    have f3 := Below.frozens hb3
    try simp only [World.size_alloc, World.size_setCell, World.size_drew] at z3 c3 f3
    go_wp2_with fail
    refine (HCnt.out A c _ (RA.out.below (by repeat (first | (with_reducible exact Below.refl _ _) | ((with_reducible refine Below.alloc ?_ ?_ _); rotate_left; (next => ((try dsimp only); (try simp only [World.size_alloc, World.size_setCell, World.size_drew]); omega))) | ((with_reducible refine Below.setCell ?_ ?_ _); rotate_left; (next => ((try dsimp only); (try simp only [World.size_alloc, World.size_setCell, World.size_drew]); omega))) | (with_reducible refine Below.drew ?_) | ((with_reducible refine Below.trans ?_ (Below.mono hb3 ?_)); rotate_left; (next => ((try dsimp only); (try simp only [World.size_alloc, World.size_setCell, World.size_drew]); omega))))))).mono ?_
    rintro e w4 ⟨rfl, hb4⟩
    have z4 := hb4.size
    have c4 := Below.cells hb4
    have f4 := Below.frozens hb4
    try simp only [World.size_alloc, World.size_setCell, World.size_drew] at z4 c4 f4
    go_wp2_with fail
    refine wp_region_quiet_all (Ext _) (by kernel_rfl) (by kernel_rfl) (Ext.drawn _) ?_
    repeat (first | go_big_quiet_skip | go_big_quiet_step (fail) | (refine BigFrame.wpQuiet_want rfl (fun K hK => ?_); apply Exists.intro; refine ⟨fun w2 h2 => ?_, ?_⟩; (next => (have g1 := Below.cells h2.below; have g2 := Below.frozens h2.below; (try simp only [World.size_alloc, World.size_setCell] at g1 g2); first | (go_simp; (fail)) | (simp [go_sem, ↓IntWalk.iteOmega, *]; done) | (simp [go_sem, ↓IntWalk.iteOmega, *]; rfl)))); (go_simp; refine hK _ ?_; clear hK K))
    refine wpQuiet_nil ?_
    intro w5 h5
    have hb5 := h5.below
    clear h5
    have z5 := hb5.size
    have c5 := Below.cells hb5
    have f5 := Below.frozens hb5
    try simp only [World.size_alloc, World.size_setCell, World.size_drew] at z5 c5 f5
    go_wp2_with fail
    go_ret
    exact ⟨rfl, (by repeat (first | (with_reducible exact Below.refl _ _) | ((with_reducible refine Below.alloc ?_ ?_ _); rotate_left; (next => ((try dsimp only); (try simp only [World.size_alloc, World.size_setCell, World.size_drew]); omega))) | ((with_reducible refine Below.setCell ?_ ?_ _); rotate_left; (next => ((try dsimp only); (try simp only [World.size_alloc, World.size_setCell, World.size_drew]); omega))) | (with_reducible refine Below.drew ?_) | ((with_reducible refine Below.trans ?_ (Below.mono hb5 ?_)); rotate_left; (next => ((try dsimp only); (try simp only [World.size_alloc, World.size_setCell, World.size_drew]); omega))) | ((with_reducible refine Below.trans ?_ (Below.mono hb4 ?_)); rotate_left; (next => ((try dsimp only); (try simp only [World.size_alloc, World.size_setCell, World.size_drew]); omega))) | ((with_reducible refine Below.trans ?_ (Below.mono hb3 ?_)); rotate_left; (next => ((try dsimp only); (try simp only [World.size_alloc, World.size_setCell, World.size_drew]); omega))) | ((with_reducible refine Below.trans ?_ (Below.mono hb2 ?_)); rotate_left; (next => ((try dsimp only); (try simp only [World.size_alloc, World.size_setCell, World.size_drew]); omega))) | ((with_reducible refine Below.trans ?_ (Below.mono hb1 ?_)); rotate_left; (next => ((try dsimp only); (try simp only [World.size_alloc, World.size_setCell, World.size_drew]); omega)))))⟩
end Go.Proofs.Ytgiipelonojgaaa

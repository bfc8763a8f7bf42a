import Derived.Test.YtmahmeopehhjfaaSu
set_option linter.unusedSimpArgs false
set_option linter.unusedVariables false
namespace Go.Proofs.Ytmahmeopehhjfaa
open Go.RowKit

theorem mul_bd {a b A B : Int} (h : 0 ≤ a ∧ a ≤ A) (h' : 0 ≤ b ∧ b ≤ B) : 0 ≤ a * b ∧ a * b ≤ A * B :=
  ⟨Int.mul_nonneg h.1 h'.1, Int.mul_le_mul h.2 h'.2 h'.1 (by omega)⟩
/-- At most 32 numbers below 100000. -/
def small (l : List Int) : List Int := (l.take 32).map fun x => within x 100000
theorem small_len (l : List Int) : (small l).length = min 32 l.length := by simp [small]
theorem small_btw (l : List Int) : Btw 0 99999 (small l) := by
  intro x hx
  obtain ⟨y, _, rfl⟩ := List.mem_map.1 hx
  have := within_bd y (n := 100000) (by omega)
  omega
theorem small_get {l : List Int} {k : Nat} (h : k < (small l).length) : (small l).getD k 0 = within (l.getD k 0) 100000 := by
  have h2 := h
  rw [small_len] at h2
  simp [small, List.getD, List.getElem?_take, show k < 32 by omega, show k < l.length by omega]
theorem Btw.wide {a b c d : Int} {l : List Int} (h : Btw a b l) (h1 : c ≤ a) (h2 : b ≤ d) : Btw c d l := fun x hx => by have := h x hx; omega
theorem small_pack {w : World} {a : Option Addr} {len cap : Nat} (l : List Int) (h : InRow w a len cap l) (hm : cap ≤ maxLen) : ∃ (ys : List Int) (n : Nat) (S Q X : Int), ys.length = n ∧ n ≤ 32 ∧ ((len ≤ n ∧ n ≤ len ∧ (len : Int) ≤ 32) ∨ (¬ (len : Int) ≤ 32 ∧ n ≤ 32 ∧ 32 ≤ n)) ∧ n ≤ len ∧
    (∀ k, k < n → ys.getD k 0 = within (l.getD k 0) 100000) ∧ Btw 0 16777216 ys ∧ sumI ys = S ∧ sqI ys = Q ∧ (n : Int) * Q - S * S = X ∧ SumsOK n S Q ∧ S ≤ n * 99999 ∧ Q ≤ S * 99999 := by
  have hl := h.1.len
  have b := (small_btw l).wide (c := 0) (d := 16777216) (by omega) (by omega)
  have c1 := sumI_bd (small_btw l)
  have c2 := sqI_bd (small_btw l)
  refine ⟨small l, _, _, _, _, rfl, by rw [small_len]; omega, ?_, by rw [small_len]; omega, fun k hk => small_get hk, b, rfl, rfl, rfl, sumsOK_of b (by rw [small_len]; omega), c1.2, c2.2⟩
  rw [small_len, hl]
  by_cases c : len ≤ 32
  · exact .inl ⟨by omega, by omega, by omega⟩
  · exact .inr ⟨by omega, by omega, by omega⟩

theorem cells_below {w w' : World} {A : Option Addr} {n : Nat} {l : List Int} (h : ∀ k, k < n → ∃ b off, A = some ⟨b, off, none⟩ ∧ b < w.heap.size ∧ w.cell? ⟨b, off + k, none⟩ = some (.int .i64 (l.getD k 0))) (hb : Below w.heap.size w w') :
    ∀ k, k < n → ∃ b off, A = some ⟨b, off, none⟩ ∧ b < w'.heap.size ∧ w'.cell? ⟨b, off + k, none⟩ = some (.int .i64 (l.getD k 0)) := fun k hk => by
  obtain ⟨b, off, e, lt, hc⟩ := h k hk
  exact ⟨b, off, e, Nat.lt_of_lt_of_le lt hb.size, (hb.cell (p := ⟨b, off + k, none⟩) lt).trans hc⟩

theorem chan (n m S Q T R : Int) : n * m * ((n + m) * (Q + R) - (S + T) * (S + T)) = m * (n + m) * (n * Q - S * S) + n * (n + m) * (m * R - T * T) + (m * S - n * T) * (m * S - n * T) := by grind

set_option maxRecDepth 100000 in
set_option maxHeartbeats 8000000 in
theorem statChan_walk (a : Option Addr) (len cap : Nat) (l : List Int) (a' : Option Addr) (len' cap' : Nat) (l' : List Int) (w : World) (hin : InRow w a len cap l) (hin' : InRow w a' len' cap' l') :
    Calls Try.prog 8 #[.slice a len cap, .slice a' len' cap'] w fun e w' =>
      e = .returned (.bool true) ∧ Below w.heap.size w w' := by
  obtain ⟨xs, n, S, Q, X, hn, n32, hcs, hnl, hget, hb, hS, hQ, hX, ok, sb, qb⟩ := small_pack l hin hin.2.2
  obtain ⟨ys, m, T, R, Y, hm, m32, hcs', hml, hget', hb', hT, hR, hY, ok', tb, rb⟩ := small_pack l' hin' hin'.2.2
  have bd := ok.bd
  have bd' := ok'.bd
  have okj : SumsOK ((n : Int) + m) (S + T) (Q + R) := by
    have := sumsOK_of (hb.append hb') (by simp; omega)
    rw [sumI_append, sqI_append, List.length_append, hn, hm, hS, hT, hQ, hR] at this
    simpa using this
  have bj := okj.bd
  obtain ⟨Z, hZ⟩ : ∃ Z, ((n : Int) + m) * (Q + R) - (S + T) * (S + T) = Z := ⟨_, rfl⟩
  have hE := chan n m S Q T R
  rw [hZ, hX, hY] at hE
  have hEb : ((n : Int) * m * Z == (m : Int) * ((n : Int) + m) * X + (n : Int) * ((n : Int) + m) * Y + ((m : Int) * S - (n : Int) * T) * ((m : Int) * S - (n : Int) * T)) = true := by simpa using hE
  have nb : (0 : Int) ≤ n ∧ (n : Int) ≤ 32 := by omega
  have mb : (0 : Int) ≤ m ∧ (m : Int) ≤ 32 := by omega
  have jb : (0 : Int) ≤ (n : Int) + m ∧ (n : Int) + m ≤ 64 := by omega
  have Sb : 0 ≤ S ∧ S ≤ 3200000 := by omega
  have Tb : 0 ≤ T ∧ T ≤ 3200000 := by omega
  have Qb : 0 ≤ Q ∧ Q ≤ 320000000000 := by omega
  have Rb : 0 ≤ R ∧ R ≤ 320000000000 := by omega
  have s1 := sq_nonneg S
  have s2 := sq_nonneg T
  have p1 := mul_bd nb Qb
  have p2 := mul_bd mb Rb
  have p3 := mul_bd jb (b := Q + R) (B := 640000000000) (by omega)
  have s3 := sq_nonneg (S + T)
  have Xb : 0 ≤ X ∧ X ≤ 10240000000000 := by omega
  have Yb : 0 ≤ Y ∧ Y ≤ 10240000000000 := by omega
  have Zb : 0 ≤ Z ∧ Z ≤ 40960000000000 := by omega
  have u1 := mul_bd nb mb
  have u2 := mul_bd u1 Zb
  have u3 := mul_bd mb jb
  have u4 := mul_bd u3 Xb
  have u5 := mul_bd nb jb
  have u6 := mul_bd u5 Yb
  have u7 := mul_bd mb Sb
  have u8 := mul_bd nb Tb
  have u9 := sq_le (a := (m : Int) * S - (n : Int) * T) (M := 102400000) (by omega) (by omega)
  have u10 := sq_nonneg ((m : Int) * S - (n : Int) * T)
  have hb1 : ∀ k, k < n → ∃ b off, a = some ⟨b, off, none⟩ ∧ b < w.heap.size ∧ w.cell? ⟨b, off + k, none⟩ = some (.int .i64 (l.getD k 0)) := fun k hk => hin.1.each k (by omega)
  have hb2 : ∀ k, k < m → ∃ b off, a' = some ⟨b, off, none⟩ ∧ b < w.heap.size ∧ w.cell? ⟨b, off + k, none⟩ = some (.int .i64 (l'.getD k 0)) := fun k hk => hin'.1.each k (by omega)
  have cp := hin.2.1
  have cp' := hin'.2.1
  have mx := hin.2.2
  have mx' := hin'.2.2
  unfold maxLen at mx mx'
  have hsum : ∀ A c w', Row w' A n xs → _ := fun A c w' h => sums_ok A n c xs S Q w' h (by omega) hb hS hQ
  have hsum' : ∀ A c w', Row w' A m ys → _ := fun A c w' h => sums_ok A m c ys T R w' h (by omega) hb' hT hR
  have hj : ∀ w', _ := fun w' => sjoin_ok n S Q m T R _ _ _ ok ok' (by omega) rfl rfl rfl w'
  have hs1 : ∀ w', _ := fun w' => spread_ok n S Q X ok hX w'
  have hs2 : ∀ w', _ := fun w' => spread_ok m T R Y ok' hY w'
  have hs3 : ∀ w', _ := fun w' => spread_ok _ _ _ Z okj hZ w'
  have HSum := Lib.hid hsum
  have HSum' := Lib.hid hsum'
  have HJ := Lib.hid hj
  have HS1 := Lib.hid hs1
  have HS2 := Lib.hid hs2
  have HS3 := Lib.hid hs3
  have HG := Lib.hid hget
  have HG' := Lib.hid hget'
  have HN := Lib.hid hn
  have HM := Lib.hid hm
  have HB1 := Lib.hid hb1
  have HB2 := Lib.hid hb2
  obtain ⟨i0, hi, hz0, hz1, hz2⟩ := info_parts info_int
  have qa := alloc_cells
  have qf := alloc_frozens
  clear hsum hsum' hj hs1 hs2 hs3 hin hin' hb hb' hn hm ok ok' okj hS hQ hX hT hR hY hZ hE hget hget' hb1 hb2
  clear bd bd' bj s1 s2 s3 p1 p2 p3 sb qb tb rb
  have d1 : (len ≤ n → decide (n < len) = false) := fun h => by simp; omega
  have d2 : (len' ≤ m → decide (m < len') = false) := fun h => by simp; omega
  have D1 := Lib.hid d1
  have D2 := Lib.hid d2
  clear d1 d2
  rcases hcs with ⟨h1, h2, h3⟩ | ⟨h1, h2, h3⟩ <;> rcases hcs' with ⟨h4, h5, h6⟩ | ⟨h4, h5, h6⟩
  all_goals
    try have dd1 := D1.out h1
    try have dd2 := D2.out h4
    go_enter Try.func8, Try.ntmps8
    go_wp2_with fail
    refine (begun_ok _).mono ?_
    rintro e w1 ⟨rfl, hb1⟩
    have z1 := hb1.size
    have c1 := Below.cells hb1
    have f1 := Below.frozens hb1
    try simp only [World.size_alloc, World.size_setCell, World.size_drew] at z1 c1 f1
    go_wp2_with fail
    have HC1 := Lib.hid (cells_below HB1.out (w' := w1) (by repeat (first | (with_reducible exact Below.refl _ _) | ((with_reducible refine Below.alloc ?_ ?_ _); rotate_left; (next => ((try dsimp only); (try simp only [World.size_alloc, World.size_setCell, World.size_drew]); omega))) | ((with_reducible refine Below.setCell ?_ ?_ _); rotate_left; (next => ((try dsimp only); (try simp only [World.size_alloc, World.size_setCell, World.size_drew]); omega))) | (with_reducible refine Below.drew ?_) | ((with_reducible refine Below.trans ?_ (Below.mono hb1 ?_)); rotate_left; (next => ((try dsimp only); (try simp only [World.size_alloc, World.size_setCell, World.size_drew]); omega))))))
    clear c1 f1
    go_loopw [5, 30] (fun v i wr => ∃ k : Nat, k ≤ n ∧ i = .int .i64 k ∧ wr.ownsRow w1.heap.size 3 1 v k ((List.take k xs).map (Value.int .i64)) ∧ Below w1.heap.size w1 wr) (fun _ i _ => n - (intOf i).toNat)
    case atStart => exact ⟨0, Nat.zero_le _, rfl, World.ownsRow_nil _ _ _ _, Below.refl _ _⟩
    case round =>
      obtain ⟨k, hk, rfl, hown, bel⟩ := hrel
      have hsz := bel.size
      by_cases hlt : k < n
      · obtain ⟨bkx, offx, hAx, ltx, hrx⟩ := HC1.out k hlt
        subst hAx
        replace hrx := (bel.cell (p := ⟨bkx, offx + k, none⟩) ltx).trans hrx
        obtain ⟨x, hvx, hxx⟩ := name_num hrx
        have HX := Lib.hid hvx
        clear hvx hrx
        obtain ⟨y, hyv⟩ : ∃ y, y = within x 100000 := ⟨_, rfl⟩
        have HY := Lib.hid hyv
        have htk : List.take (k + 1) xs = List.take k xs ++ [y] := by rw [take_snoc _ (by have := HN.out; omega), HG.out k (by omega), ← HX.out, ← HY.out]
        have HT := Lib.hid htk
        clear hyv htk
        go_wp2_with fail
        refine (within_any x 100000 y _ (by omega) (by omega) HY.out.symm).mono ?_
        rintro e w' ⟨rfl, rfl⟩
        go_wp2_with (at_builtin; (refine wpList_append_own _ rfl _ _ 22 rfl (w1.heap.size) 3 i0 (.int .i64 0) 1 8 Try.underlying22 hi hz0 hz1 hz2 rfl (by decide) _ _ _ rfl (World.ownsRow.alloc hown _) ⟨wr.heap.size, 0, none⟩ 1 1 [.int .i64 (y)] rfl rfl (app1_cells _ _ _) (app1_one _ _) (by unfold maxLen; omega) (by omega) (by simp; omega) ?_))
        intro vq wq ownq grq _
        have own2 : wq.ownsRow w1.heap.size 3 1 vq (k + 1) ((List.take (k + 1) xs).map (Value.int .i64)) := by rw [HT.out]; simpa [List.map_append, List.map_take] using ownq
        have bel2 := (bel.alloc hsz _).grown grq (by simp; omega) (fun g hg => (hown.lt g hg).1)
        have HO := Lib.hid own2
        clear ownq grq hown own2 hxx bel
        go_wp2_with fail
        go_roundw
        case rel => first | exact ⟨k + 1, by omega, by go_num, HO.out, bel2⟩ | ((repeat apply Exists.intro); exact ⟨⟨k + 1, by omega, by go_num, HO.out, bel2⟩, rfl⟩)
        case measure => simp [intOf]; omega
      · obtain rfl : n = k := by omega
        rw [List.take_of_length_le (by have := HN.out; omega)] at hown
        obtain ⟨wP, rfl⟩ : ∃ z : World, z = wr := ⟨_, rfl⟩
        obtain ⟨AP, cP, rfl, pP, qP⟩ := own_form hown
        have RP := Lib.hid (Row.of_own hown)
        have oP := Lib.hid hown
        have hbP := bel
        have zP := hsz
        clear hown bel hsz hlt hk
        go_wp2_with fail
        have HC2 := Lib.hid (cells_below HB2.out (w' := wP) (by repeat (first | (with_reducible exact Below.refl _ _) | ((with_reducible refine Below.alloc ?_ ?_ _); rotate_left; (next => ((try dsimp only); (try simp only [World.size_alloc, World.size_setCell, World.size_drew]); omega))) | ((with_reducible refine Below.setCell ?_ ?_ _); rotate_left; (next => ((try dsimp only); (try simp only [World.size_alloc, World.size_setCell, World.size_drew]); omega))) | (with_reducible refine Below.drew ?_) | ((with_reducible refine Below.trans ?_ (Below.mono hbP ?_)); rotate_left; (next => ((try dsimp only); (try simp only [World.size_alloc, World.size_setCell, World.size_drew]); omega))) | ((with_reducible refine Below.trans ?_ (Below.mono hb1 ?_)); rotate_left; (next => ((try dsimp only); (try simp only [World.size_alloc, World.size_setCell, World.size_drew]); omega))))))
        go_loopw [6, 46] (fun v i wr => ∃ k : Nat, k ≤ m ∧ i = .int .i64 k ∧ wr.ownsRow wP.heap.size 3 1 v k ((List.take k ys).map (Value.int .i64)) ∧ Below wP.heap.size wP wr) (fun _ i _ => m - (intOf i).toNat)
        case atStart => exact ⟨0, Nat.zero_le _, rfl, World.ownsRow_nil _ _ _ _, Below.refl _ _⟩
        case round =>
          obtain ⟨k, hk, rfl, hown, bel⟩ := hrel
          have hsz := bel.size
          by_cases hlt : k < m
          · obtain ⟨bkx, offx, hAx, ltx, hrx⟩ := HC2.out k hlt
            subst hAx
            replace hrx := (bel.cell (p := ⟨bkx, offx + k, none⟩) ltx).trans hrx
            obtain ⟨x, hvx, hxx⟩ := name_num hrx
            have HX := Lib.hid hvx
            clear hvx hrx
            obtain ⟨y, hyv⟩ : ∃ y, y = within x 100000 := ⟨_, rfl⟩
            have HY := Lib.hid hyv
            have htk : List.take (k + 1) ys = List.take k ys ++ [y] := by rw [take_snoc _ (by have := HM.out; omega), HG'.out k (by omega), ← HX.out, ← HY.out]
            have HT := Lib.hid htk
            clear hyv htk
            go_wp2_with fail
            refine (within_any x 100000 y _ (by omega) (by omega) HY.out.symm).mono ?_
            rintro e w' ⟨rfl, rfl⟩
            go_wp2_with (at_builtin; (refine wpList_append_own _ rfl _ _ 22 rfl (wP.heap.size) 3 i0 (.int .i64 0) 1 8 Try.underlying22 hi hz0 hz1 hz2 rfl (by decide) _ _ _ rfl (World.ownsRow.alloc hown _) ⟨wr.heap.size, 0, none⟩ 1 1 [.int .i64 (y)] rfl rfl (app1_cells _ _ _) (app1_one _ _) (by unfold maxLen; omega) (by omega) (by simp; omega) ?_))
            intro vq wq ownq grq _
            have own2 : wq.ownsRow wP.heap.size 3 1 vq (k + 1) ((List.take (k + 1) ys).map (Value.int .i64)) := by rw [HT.out]; simpa [List.map_append, List.map_take] using ownq
            have bel2 := (bel.alloc hsz _).grown grq (by simp; omega) (fun g hg => (hown.lt g hg).1)
            have HO := Lib.hid own2
            clear ownq grq hown own2 hxx bel
            go_wp2_with fail
            go_roundw
            case rel => first | exact ⟨k + 1, by omega, by go_num, HO.out, bel2⟩ | ((repeat apply Exists.intro); exact ⟨⟨k + 1, by omega, by go_num, HO.out, bel2⟩, rfl⟩)
            case measure => simp [intOf]; omega
          · obtain rfl : m = k := by omega
            rw [List.take_of_length_le (by have := HM.out; omega)] at hown
            obtain ⟨wQ, rfl⟩ : ∃ z : World, z = wr := ⟨_, rfl⟩
            obtain ⟨AQ, cQ, rfl, pQ, qQ⟩ := own_form hown
            have RQ := Lib.hid (Row.of_own hown)
            have oQ := Lib.hid hown
            have hbQ := bel
            have zQ := hsz
            clear hown bel hsz hlt hk
            go_wp2_with fail
            refine (HSum.out AP cP _ (RP.out.below (by repeat (first | (with_reducible exact Below.refl _ _) | ((with_reducible refine Below.alloc ?_ ?_ _); rotate_left; (next => ((try dsimp only); (try simp only [World.size_alloc, World.size_setCell, World.size_drew]); omega))) | ((with_reducible refine Below.setCell ?_ ?_ _); rotate_left; (next => ((try dsimp only); (try simp only [World.size_alloc, World.size_setCell, World.size_drew]); omega))) | (with_reducible refine Below.drew ?_) | ((with_reducible refine Below.trans ?_ (Below.mono hbQ ?_)); rotate_left; (next => ((try dsimp only); (try simp only [World.size_alloc, World.size_setCell, World.size_drew]); omega))))))).mono ?_
            rintro e w2 ⟨rfl, hb2⟩
            have z2 := hb2.size
            have c2 := Below.cells hb2
            have f2 := Below.frozens hb2
            try simp only [World.size_alloc, World.size_setCell, World.size_drew] at z2 c2 f2
            go_wp2_with fail
            refine (HSum'.out AQ cQ _ (RQ.out.below (by repeat (first | (with_reducible exact Below.refl _ _) | ((with_reducible refine Below.alloc ?_ ?_ _); rotate_left; (next => ((try dsimp only); (try simp only [World.size_alloc, World.size_setCell, World.size_drew]); omega))) | ((with_reducible refine Below.setCell ?_ ?_ _); rotate_left; (next => ((try dsimp only); (try simp only [World.size_alloc, World.size_setCell, World.size_drew]); omega))) | (with_reducible refine Below.drew ?_) | ((with_reducible refine Below.trans ?_ (Below.mono hb2 ?_)); rotate_left; (next => ((try dsimp only); (try simp only [World.size_alloc, World.size_setCell, World.size_drew]); omega))))))).mono ?_
            rintro e w3 ⟨rfl, hb3⟩
            have z3 := hb3.size
            have c3 := Below.cells hb3
            have f3 := Below.frozens hb3
            try simp only [World.size_alloc, World.size_setCell, World.size_drew] at z3 c3 f3
            go_wp2_with fail
            refine (HJ.out _).mono ?_
            rintro e w4 ⟨rfl, hb4⟩
            have z4 := hb4.size
            have c4 := Below.cells hb4
            have f4 := Below.frozens hb4
            try simp only [World.size_alloc, World.size_setCell, World.size_drew] at z4 c4 f4
            go_wp2_with fail
            refine (HS1.out _).mono ?_
            rintro e w5 ⟨rfl, hb5⟩
            have z5 := hb5.size
            have c5 := Below.cells hb5
            have f5 := Below.frozens hb5
            try simp only [World.size_alloc, World.size_setCell, World.size_drew] at z5 c5 f5
            go_wp2_with fail
            refine (HS2.out _).mono ?_
            rintro e w6 ⟨rfl, hb6⟩
            have z6 := hb6.size
            have c6 := Below.cells hb6
            have f6 := Below.frozens hb6
            try simp only [World.size_alloc, World.size_setCell, World.size_drew] at z6 c6 f6
            go_wp2_with fail
            refine (HS3.out _).mono ?_
            rintro e w7 ⟨rfl, hb7⟩
            have z7 := hb7.size
            have c7 := Below.cells hb7
            have f7 := Below.frozens hb7
            try simp only [World.size_alloc, World.size_setCell, World.size_drew] at z7 c7 f7
            go_wp2_with fail
            go_ret
            exact ⟨rfl, (by repeat (first | (with_reducible exact Below.refl _ _) | ((with_reducible refine Below.alloc ?_ ?_ _); rotate_left; (next => ((try dsimp only); (try simp only [World.size_alloc, World.size_setCell, World.size_drew]); omega))) | ((with_reducible refine Below.setCell ?_ ?_ _); rotate_left; (next => ((try dsimp only); (try simp only [World.size_alloc, World.size_setCell, World.size_drew]); omega))) | (with_reducible refine Below.drew ?_) | ((with_reducible refine Below.trans ?_ (Below.mono hb7 ?_)); rotate_left; (next => ((try dsimp only); (try simp only [World.size_alloc, World.size_setCell, World.size_drew]); omega))) | ((with_reducible refine Below.trans ?_ (Below.mono hb6 ?_)); rotate_left; (next => ((try dsimp only); (try simp only [World.size_alloc, World.size_setCell, World.size_drew]); omega))) | ((with_reducible refine Below.trans ?_ (Below.mono hb5 ?_)); rotate_left; (next => ((try dsimp only); (try simp only [World.size_alloc, World.size_setCell, World.size_drew]); omega))) | ((with_reducible refine Below.trans ?_ (Below.mono hb4 ?_)); rotate_left; (next => ((try dsimp only); (try simp only [World.size_alloc, World.size_setCell, World.size_drew]); omega))) | ((with_reducible refine Below.trans ?_ (Below.mono hb3 ?_)); rotate_left; (next => ((try dsimp only); (try simp only [World.size_alloc, World.size_setCell, World.size_drew]); omega))) | ((with_reducible refine Below.trans ?_ (Below.mono hb2 ?_)); rotate_left; (next => ((try dsimp only); (try simp only [World.size_alloc, World.size_setCell, World.size_drew]); omega))) | ((with_reducible refine Below.trans ?_ (Below.mono hbQ ?_)); rotate_left; (next => ((try dsimp only); (try simp only [World.size_alloc, World.size_setCell, World.size_drew]); omega))) | ((with_reducible refine Below.trans ?_ (Below.mono hbP ?_)); rotate_left; (next => ((try dsimp only); (try simp only [World.size_alloc, World.size_setCell, World.size_drew]); omega))) | ((with_reducible refine Below.trans ?_ (Below.mono hb1 ?_)); rotate_left; (next => ((try dsimp only); (try simp only [World.size_alloc, World.size_setCell, World.size_drew]); omega)))))⟩
end Go.Proofs.Ytmahmeopehhjfaa

import Derived.Test.YtlaeibpanipefaaLrankpart
import Derived.Test.YtlaeibpanipefaaMm
set_option linter.unusedSimpArgs false
set_option linter.unusedVariables false
namespace Go.Proofs.Ytlaeibpanipefaa
open Go.RowKit
theorem cnt_all (t : Int) : ∀ (l : List Int), (l.length : Int) ≤ cnt t l → ∀ y ∈ l, t ≤ y := by
  intro l
  induction l with
  | nil => intro _ y hy; cases hy
  | cons x l ih =>
    intro h y hy
    have bd := cnt_bd t l
    simp only [cnt, List.length_cons] at h
    split at h
    · rcases List.mem_cons.1 hy with rfl | hy
      · assumption
      · exact ih (by omega) y hy
    · omega
theorem cnt_mem {y : Int} : ∀ {l : List Int}, y ∈ l → 1 ≤ cnt y l := by
  intro l
  induction l with
  | nil => intro h; cases h
  | cons x l ih =>
    intro h
    have bd := cnt_bd y l
    simp only [cnt]
    rcases List.mem_cons.1 h with rfl | h
    · rw [if_pos (Int.le_refl _)]; omega
    · have := ih h; split <;> omega
theorem srt_min (l : List Int) (h : 0 < l.length) : IsMin l ((srt l).getD 0 0) :=
  ⟨kth_mem l 0 h, cnt_all _ l (by have := (kth_iff l 0 h ((srt l).getD 0 0)).1 (Int.le_refl _); omega)⟩
theorem srt_max (l : List Int) (h : 0 < l.length) : IsMax l ((srt l).getD (l.length - 1) 0) :=
  ⟨kth_mem l _ (by omega), fun y hy => (kth_iff l _ (by omega) y).2 (by have := cnt_mem hy; omega)⟩
theorem srt_add (l : List Int) (b : Int) : srt (l.map (· + b)) = (srt l).map (· + b) := by
  refine srt_eq ?_ ((srt_perm l).map _)
  rw [List.pairwise_map]
  exact (srt_sorted l).imp (fun h => by omega)
theorem srt_42 : srt [4, 2] = [2, 4] := srt_eq (by decide) (by decide)

set_option maxRecDepth 100000 in
set_option maxHeartbeats 16000000 in
theorem rankEnds_walk (a : Option Addr) (len cap : Nat) (l : List Int) (p q r : Int) (w : World) (hin : InRow w a len cap l) (_ : (Lit.int .i64 p).wf = true) (_ : (Lit.int .i64 q).wf = true) (_ : (Lit.int .i64 r).wf = true) :
    Calls Try.prog 6 #[.slice a len cap, .int .i64 p, .int .i64 q, .int .i64 r] w fun e w' =>
      e = .returned (.bool true) ∧ Below w.heap.size w w' := by
  obtain ⟨ys, n, hy, hn, hm, hb⟩ := vals_facts l
  have hlv : ∀ w', InRow w' a len cap l → _ := fun w' h => values_at a len cap l w' h ys n hy hn
  have hs0 := rank_ok _ 2 2 [4, 2] 0 1 2 0 _ (Row.lit w 3 [4, 2] 2 rfl) (by omega) (by omega) (by decide) (by omega) (by omega) (by decide) (by omega) (by rw [srt_42]; rfl)
  simp only [List.map_cons, List.map_nil] at hs0
  have HLv := Lib.hid hlv
  have HS0 := Lib.hid hs0
  have HIn := Lib.hid hin
  have b1 := within_bd q (n := 1000) (by omega)
  obtain ⟨Q, e_Q⟩ : ∃ z_, within q 1000 = z_ := ⟨_, rfl⟩
  rw [e_Q] at b1
  have HQ := Lib.hid e_Q
  clear e_Q
  have b2 := within_bd p (n := 1 + Q + 1) (by omega)
  obtain ⟨P, e_P⟩ : ∃ z_, within p (1 + Q + 1) = z_ := ⟨_, rfl⟩
  rw [e_P] at b2
  have HP := Lib.hid e_P
  clear e_P
  have qa := alloc_cells
  have qf := alloc_frozens
  rcases Nat.eq_zero_or_pos n with h0 | h0
  · subst h0
    clear hlv hs0 hin hn hy hb
    go_enter Try.func6, Try.ntmps6
    go_wp2_with fail
    refine (HS0.out).mono ?_
    rintro e w1 ⟨rfl, hb1⟩
    have z1 := hb1.size
    have c1 := Below.cells hb1
    have f1 := Below.frozens hb1
    try simp only [World.size_alloc, World.size_setCell, World.size_drew] at z1 c1 f1
    go_wp2_with fail
    refine (HLv.out _ (HIn.out.below (by repeat (first | (with_reducible exact Below.refl _ _) | ((with_reducible refine Below.alloc ?_ ?_ _); rotate_left; (next => ((try dsimp only); (try simp only [World.size_alloc, World.size_setCell, World.size_drew]); omega))) | ((with_reducible refine Below.setCell ?_ ?_ _); rotate_left; (next => ((try dsimp only); (try simp only [World.size_alloc, World.size_setCell, World.size_drew]); omega))) | (with_reducible refine Below.drew ?_) | ((with_reducible refine Below.trans ?_ (Below.mono hb1 ?_)); rotate_left; (next => ((try dsimp only); (try simp only [World.size_alloc, World.size_setCell, World.size_drew]); omega))))))).mono ?_
    rintro e w2 ⟨A2, cap2, rfl, hrA2, hb2⟩
    have RA2 := Lib.hid hrA2.1
    have EA2 := Lib.hid hrA2.1.each
    have IA2 := Lib.hid hrA2
    have capA2 := hrA2.2.1
    clear hrA2
    have z2 := hb2.size
    have c2 := Below.cells hb2
    have f2 := Below.frozens hb2
    try simp only [World.size_alloc, World.size_setCell, World.size_drew] at z2 c2 f2
    go_wp2_with fail
    go_ret
    exact ⟨rfl, (by repeat (first | (with_reducible exact Below.refl _ _) | ((with_reducible refine Below.alloc ?_ ?_ _); rotate_left; (next => ((try dsimp only); (try simp only [World.size_alloc, World.size_setCell, World.size_drew]); omega))) | ((with_reducible refine Below.setCell ?_ ?_ _); rotate_left; (next => ((try dsimp only); (try simp only [World.size_alloc, World.size_setCell, World.size_drew]); omega))) | (with_reducible refine Below.drew ?_) | ((with_reducible refine Below.trans ?_ (Below.mono hb2 ?_)); rotate_left; (next => ((try dsimp only); (try simp only [World.size_alloc, World.size_setCell, World.size_drew]); omega))) | ((with_reducible refine Below.trans ?_ (Below.mono hb1 ?_)); rotate_left; (next => ((try dsimp only); (try simp only [World.size_alloc, World.size_setCell, World.size_drew]); omega)))))⟩
  · obtain ⟨K, hK, hKn, _, _⟩ := kth_rank n P (1 + Q) h0 (by omega) (by omega)
    obtain ⟨x, hx⟩ : ∃ x, (srt ys).getD K 0 = x := ⟨_, rfl⟩
    obtain ⟨lo, hlo⟩ : ∃ x, (srt ys).getD 0 0 = x := ⟨_, rfl⟩
    obtain ⟨top, hhi⟩ : ∃ x, (srt ys).getD (n - 1) 0 = x := ⟨_, rfl⟩
    have hmin := srt_min ys (by omega)
    have hmax := srt_max ys (by omega)
    rw [hlo] at hmin
    rw [hn, hhi] at hmax
    have hib := hb top hmax.1
    have hmem := kth_mem ys K (by omega)
    rw [hx] at hmem
    have hxb := hb x hmem
    have hxm := hmax.2 x hmem
    have b3 := within_bd r (n := 16777216 - top + 1) (by omega)
    obtain ⟨R, e_R⟩ : ∃ z_, within r (16777216 - top + 1) = z_ := ⟨_, rfl⟩
    rw [e_R] at b3
    have HR := Lib.hid e_R
    clear e_R
    obtain ⟨zs, hzs⟩ : ∃ zs, ys.map (· + R) = zs := ⟨_, rfl⟩
    have hzn : zs.length = n := by rw [← hzs, List.length_map, hn]
    have hzb : Btw 0 16777216 zs := fun z hz => by
      rw [← hzs] at hz
      obtain ⟨y, hy', rfl⟩ := List.mem_map.1 hz
      have := hb y hy'
      have := hmax.2 y hy'
      show 0 ≤ y + R ∧ y + R ≤ 16777216
      omega
    have hzx : (srt zs).getD K 0 = x + R := by
      rw [← hzs, srt_add]
      have hK' : K < (srt ys).length := by rw [srt_len]; omega
      rw [← hx]
      simp [List.getD, List.getElem?_map, hK']
    have hzk : ∀ k, k < n → zs.getD k 0 = ys.getD k 0 + R := fun k hk => by
      rw [← hzs]
      simp [List.getD, List.getElem?_map, show k < ys.length by omega]
    have e0 : max 1 (((n : Int) * 0 + (1 + Q) - 1) / (1 + Q)) = ((0 : Nat) : Int) + 1 := by
      rw [Int.mul_zero, Int.ediv_eq_zero_of_lt (by omega) (by omega)]; decide
    have e1 : max 1 (((n : Int) * (1 + Q) + (1 + Q) - 1) / (1 + Q)) = ((n - 1 : Nat) : Int) + 1 := by
      have : ((n : Int) * (1 + Q) + (1 + Q) - 1) / (1 + Q) = n := by
        rw [show (n : Int) * (1 + Q) + (1 + Q) - 1 = Q + n * (1 + Q) by omega, Int.add_mul_ediv_right _ _ (by omega), Int.ediv_eq_zero_of_lt (by omega) (by omega)]; omega
      rw [this]; omega
    have hs1 : ∀ A c w', Row w' A n ys → _ := fun A c w' h => rank_ok A n c ys 0 (1 + Q) lo 0 w' h h0 hm hb (by omega) (by omega) e0 h0 hlo
    have hs2 : ∀ A c w', Row w' A n ys → _ := fun A c w' h => rank_ok A n c ys (1 + Q) (1 + Q) top (n - 1) w' h h0 hm hb (by omega) (by omega) e1 (by omega) hhi
    have hs3 : ∀ A c w', Row w' A n ys → _ := fun A c w' h => rank_ok A n c ys P (1 + Q) x K w' h h0 hm hb (by omega) (by omega) hK hKn hx
    have hs4 : ∀ A c w', Row w' A n zs → _ := fun A c w' h => rank_ok A n c zs P (1 + Q) (x + R) K w' h h0 hm hzb (by omega) (by omega) hK hKn hzx
    have hs5 : ∀ A c w', Row w' A n ys → _ := fun A c w' h => min_ok A n c ys lo w' h h0 (by omega) hmin
    have hs6 : ∀ A c w', Row w' A n ys → _ := fun A c w' h => max_ok A n c ys top w' h h0 (by omega) hmax
    have HS1 := Lib.hid hs1
    have HS2 := Lib.hid hs2
    have HS3 := Lib.hid hs3
    have HS4 := Lib.hid hs4
    have HS5 := Lib.hid hs5
    have HS6 := Lib.hid hs6
    have HZ := Lib.hid hzk
    have HZN := Lib.hid hzn
    have n1 : ((n : Int) == 0) = false := by simp; omega
    have hbk : ∀ k, k < n → 0 ≤ ys.getD k 0 ∧ ys.getD k 0 ≤ 16777216 := fun k hk => hb.get (by omega)
    have HBK := Lib.hid hbk
    obtain ⟨i0, hi, hz0, hz1, hz2⟩ := info_parts info_int
    clear hlv hs0 hs1 hs2 hs3 hs4 hs5 hs6 hin hn hy hb hmem hx hlo hhi hmin hmax hK hzs hzn hzb hzx hzk e0 e1 hbk
    go_enter Try.func6, Try.ntmps6
    go_wp2_with fail
    refine (HS0.out).mono ?_
    rintro e w1 ⟨rfl, hb1⟩
    have z1 := hb1.size
    have c1 := Below.cells hb1
    have f1 := Below.frozens hb1
    try simp only [World.size_alloc, World.size_setCell, World.size_drew] at z1 c1 f1
    go_wp2_with fail
    refine (HLv.out _ (HIn.out.below (by repeat (first | (with_reducible exact Below.refl _ _) | ((with_reducible refine Below.alloc ?_ ?_ _); rotate_left; (next => ((try dsimp only); (try simp only [World.size_alloc, World.size_setCell, World.size_drew]); omega))) | ((with_reducible refine Below.setCell ?_ ?_ _); rotate_left; (next => ((try dsimp only); (try simp only [World.size_alloc, World.size_setCell, World.size_drew]); omega))) | (with_reducible refine Below.drew ?_) | ((with_reducible refine Below.trans ?_ (Below.mono hb1 ?_)); rotate_left; (next => ((try dsimp only); (try simp only [World.size_alloc, World.size_setCell, World.size_drew]); omega))))))).mono ?_
    rintro e w2 ⟨A2, cap2, rfl, hrA2, hb2⟩
    have RA2 := Lib.hid hrA2.1
    have EA2 := Lib.hid hrA2.1.each
    have IA2 := Lib.hid hrA2
    have capA2 := hrA2.2.1
    clear hrA2
    have z2 := hb2.size
    have c2 := Below.cells hb2
    have f2 := Below.frozens hb2
    try simp only [World.size_alloc, World.size_setCell, World.size_drew] at z2 c2 f2
    go_wp2_with fail
    refine (within_any q 1000 Q _ (by omega) (by omega) HQ.out).mono ?_
    rintro e w' ⟨rfl, rfl⟩
    go_wp2_with fail
    refine (within_any p (1 + Q + 1) P _ (by omega) (by omega) HP.out).mono ?_
    rintro e w' ⟨rfl, rfl⟩
    go_wp2_with fail
    refine (HS6.out _ _ _ RA2.out).mono ?_
    rintro e w' ⟨rfl, rfl⟩
    go_wp2_with fail
    refine (within_any r (16777216 - top + 1) R _ (by omega) (by omega) HR.out).mono ?_
    rintro e w' ⟨rfl, rfl⟩
    go_wp2_with fail
    have bel0 : Below w.heap.size w w2 := (by repeat (first | (with_reducible exact Below.refl _ _) | ((with_reducible refine Below.alloc ?_ ?_ _); rotate_left; (next => ((try dsimp only); (try simp only [World.size_alloc, World.size_setCell, World.size_drew]); omega))) | ((with_reducible refine Below.setCell ?_ ?_ _); rotate_left; (next => ((try dsimp only); (try simp only [World.size_alloc, World.size_setCell, World.size_drew]); omega))) | (with_reducible refine Below.drew ?_) | ((with_reducible refine Below.trans ?_ (Below.mono hb2 ?_)); rotate_left; (next => ((try dsimp only); (try simp only [World.size_alloc, World.size_setCell, World.size_drew]); omega))) | ((with_reducible refine Below.trans ?_ (Below.mono hb1 ?_)); rotate_left; (next => ((try dsimp only); (try simp only [World.size_alloc, World.size_setCell, World.size_drew]); omega)))))
    have HE := Lib.hid RA2.out.each
    clear c1 c2 f1 f2
    go_loopw [11, 53] (fun v i wr => ∃ k : Nat, k ≤ n ∧ i = .int .i64 k ∧ wr.ownsRow w2.heap.size 3 1 v k ((List.take k zs).map (Value.int .i64)) ∧ Below w2.heap.size w2 wr) (fun _ i _ => n - (intOf i).toNat)
    case atStart => exact ⟨0, Nat.zero_le _, rfl, World.ownsRow_nil _ _ _ _, Below.refl _ _⟩
    case round =>
      obtain ⟨k, hk, rfl, hown, bel⟩ := hrel
      have hsz := bel.size
      by_cases hlt : k < n
      · have hyb := HBK.out k hlt
        obtain ⟨bkx0, offx0, hAx0, ltx0, hrx0⟩ := HE.out k hlt
        subst hAx0
        replace hrx0 := (bel.cell (p := ⟨bkx0, offx0 + k, none⟩) ltx0).trans hrx0
        obtain ⟨x0, hvx0, hxx0⟩ := name_num hrx0
        have Hx0 := Lib.hid hvx0
        clear hvx0 hrx0
        have htk : List.take (k + 1) zs = List.take k zs ++ [x0 + R] := by rw [take_snoc _ (by have := HZN.out; omega), HZ.out k hlt, ← Hx0.out]
        rw [← Hx0.out] at hyb
        have HT := Lib.hid htk
        clear htk
        go_wp2_with (at_builtin; (refine wpList_append_own _ rfl _ _ 22 rfl (w2.heap.size) 3 i0 (.int .i64 0) 1 8 Try.underlying22 hi hz0 hz1 hz2 rfl (by decide) _ _ _ rfl (World.ownsRow.alloc hown _) ⟨wr.heap.size, 0, none⟩ 1 1 [.int .i64 ((x0 + R))] rfl rfl (app1_cells _ _ _) (app1_one _ _) (by unfold maxLen; omega) (by omega) (by simp; omega) ?_))
        intro vq wq ownq grq _
        have own2 : wq.ownsRow w2.heap.size 3 1 vq (k + 1) ((List.take (k + 1) zs).map (Value.int .i64)) := by rw [HT.out]; simpa [List.map_append, List.map_take] using ownq
        have bel2 := (bel.alloc hsz _).grown grq (by simp; omega) (fun g hg => (hown.lt g hg).1)
        have HO := Lib.hid own2
        clear ownq grq hown own2 hxx0 bel
        go_wp2_with fail
        go_roundw
        case rel => first | exact ⟨k + 1, by omega, by go_num, HO.out, bel2⟩ | ((repeat apply Exists.intro); exact ⟨⟨k + 1, by omega, by go_num, HO.out, bel2⟩, rfl⟩)
        case measure => simp [intOf]; omega
      · obtain rfl : n = k := by omega
        rw [List.take_of_length_le (by have := HZN.out; omega)] at hown
        obtain ⟨w5, rfl⟩ : ∃ z : World, z = wr := ⟨_, rfl⟩
        obtain ⟨A5, c5, rfl, p5, q5, n5⟩ := own_form hown
        have R5 := Lib.hid (Row.of_own hown)
        have R2 := Lib.hid (RA2.out.below bel)
        have hb5 := bel
        have z5 := hsz
        clear hown bel hsz hlt hk
        go_wp2_with fail
        refine (HS1.out _ _ _ R2.out).mono ?_
        rintro e w6 ⟨rfl, hb6⟩
        have z6 := hb6.size
        have c6 := Below.cells hb6
        have f6 := Below.frozens hb6
        try simp only [World.size_alloc, World.size_setCell, World.size_drew] at z6 c6 f6
        go_wp2_with fail
        refine (HS2.out _ _ _ (R2.out.below hb6)).mono ?_
        rintro e w7 ⟨rfl, hb7⟩
        have z7 := hb7.size
        have c7 := Below.cells hb7
        have f7 := Below.frozens hb7
        try simp only [World.size_alloc, World.size_setCell, World.size_drew] at z7 c7 f7
        go_wp2_with fail
        refine (HS3.out _ _ _ ((R2.out.below hb6).below hb7)).mono ?_
        rintro e w8 ⟨rfl, hb8⟩
        have z8 := hb8.size
        have c8 := Below.cells hb8
        have f8 := Below.frozens hb8
        try simp only [World.size_alloc, World.size_setCell, World.size_drew] at z8 c8 f8
        go_wp2_with fail
        refine (HS4.out _ _ _ (((R5.out.below hb6).below hb7).below hb8)).mono ?_
        rintro e w9 ⟨rfl, hb9⟩
        have z9 := hb9.size
        have c9 := Below.cells hb9
        have f9 := Below.frozens hb9
        try simp only [World.size_alloc, World.size_setCell, World.size_drew] at z9 c9 f9
        go_wp2_with fail
        refine (HS5.out _ _ _ ((((R2.out.below hb6).below hb7).below hb8).below hb9)).mono ?_
        rintro e w' ⟨rfl, rfl⟩
        go_wp2_with fail
        refine (HS6.out _ _ _ ((((R2.out.below hb6).below hb7).below hb8).below hb9)).mono ?_
        rintro e w' ⟨rfl, rfl⟩
        go_wp2_with fail
        go_ret
        exact ⟨rfl, bel0.trans (Below.mono ((by repeat (first | (with_reducible exact Below.refl _ _) | ((with_reducible refine Below.alloc ?_ ?_ _); rotate_left; (next => ((try dsimp only); (try simp only [World.size_alloc, World.size_setCell, World.size_drew]); omega))) | ((with_reducible refine Below.setCell ?_ ?_ _); rotate_left; (next => ((try dsimp only); (try simp only [World.size_alloc, World.size_setCell, World.size_drew]); omega))) | (with_reducible refine Below.drew ?_) | ((with_reducible refine Below.trans ?_ (Below.mono hb9 ?_)); rotate_left; (next => ((try dsimp only); (try simp only [World.size_alloc, World.size_setCell, World.size_drew]); omega))) | ((with_reducible refine Below.trans ?_ (Below.mono hb8 ?_)); rotate_left; (next => ((try dsimp only); (try simp only [World.size_alloc, World.size_setCell, World.size_drew]); omega))) | ((with_reducible refine Below.trans ?_ (Below.mono hb7 ?_)); rotate_left; (next => ((try dsimp only); (try simp only [World.size_alloc, World.size_setCell, World.size_drew]); omega))) | ((with_reducible refine Below.trans ?_ (Below.mono hb6 ?_)); rotate_left; (next => ((try dsimp only); (try simp only [World.size_alloc, World.size_setCell, World.size_drew]); omega))) | ((with_reducible refine Below.trans ?_ (Below.mono hb5 ?_)); rotate_left; (next => ((try dsimp only); (try simp only [World.size_alloc, World.size_setCell, World.size_drew]); omega)))))) bel0.size)⟩
end Go.Proofs.Ytlaeibpanipefaa

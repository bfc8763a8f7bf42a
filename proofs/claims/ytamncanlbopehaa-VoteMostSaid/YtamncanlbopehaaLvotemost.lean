import Derived.Test.YtamncanlbopehaaVo
set_option linter.unusedSimpArgs false
set_option linter.unusedVariables false
namespace Go.Proofs.Ytamncanlbopehaa
open Go.RowKit

/-- What was picked out of the first k. -/
def Picked (t : Int) (l : List Int) (k : Nat) (L : List Int) : Prop := L.length ≤ k ∧ Btw 0 127 L ∧ cnt t (l.take k) ≤ cnt t L + (k - L.length)
theorem picked_nil (t : Int) (l : List Int) : Picked t l 0 [] := ⟨Nat.le_refl _, Btw.nil _ _, by simp [cnt]⟩
theorem Picked.take' {t : Int} {l L : List Int} {k : Nat} (h : Picked t l k L) (hk : k < l.length) {y : Int} (hy : y = l.getD k 0) (hb : 0 ≤ y ∧ y ≤ 127) : Picked t l (k + 1) (L ++ [y]) := by
  obtain ⟨h1, h2, h3⟩ := h
  refine ⟨by simp; omega, h2.append (Btw.one hb.1 hb.2), ?_⟩
  rw [cnt_snoc t l hk, ← hy, cnt_append]
  simp only [cnt, List.length_append, List.length_cons, List.length_nil]
  split <;> omega
theorem Picked.skip {t : Int} {l L : List Int} {k : Nat} (h : Picked t l k L) (hk : k < l.length) : Picked t l (k + 1) L := by
  obtain ⟨h1, h2, h3⟩ := h
  refine ⟨by omega, h2, ?_⟩
  rw [cnt_snoc t l hk]
  split <;> omega

set_option maxRecDepth 100000 in
set_option maxHeartbeats 16000000 in
theorem voteMost_walk (a : Option Addr) (len cap : Nat) (l : List Int) (p : Int) (a' : Option Addr) (len' cap' : Nat) (l' : List Int) (w : World) (hin : InRow w a len cap l) (_ : (Lit.int .i64 p).wf = true) (hin' : InRow w a' len' cap' l') :
    Calls Try.prog 6 #[.slice a len cap, .int .i64 p, .slice a' len' cap'] w fun e w' =>
      e = .returned (.bool true) ∧ Below w.heap.size w w' := by
  obtain ⟨ys, hy⟩ : ∃ ys, lvls l = ys := ⟨_, rfl⟩
  obtain ⟨n, hn⟩ : ∃ n, ys.length = n := ⟨_, rfl⟩
  have hm : n ≤ 64 := by rw [← hn, ← hy, lvls_len]; omega
  have hb : Btw 0 127 ys := by rw [← hy]; exact lvls_btw l
  have b1 := within_bd p (n := 60) (by omega)
  obtain ⟨P, e_P⟩ : ∃ z_, within p 60 = z_ := ⟨_, rfl⟩
  rw [e_P] at b1
  have HP := Lib.hid e_P
  clear e_P
  obtain ⟨t, ht⟩ : ∃ t, 1 + P = t := ⟨_, rfl⟩
  have tb : 1 ≤ t ∧ t ≤ 60 := by omega
  obtain ⟨f, hf⟩ : ∃ f, cnt t ys = f := ⟨_, rfl⟩
  obtain ⟨HI, hHI⟩ : ∃ z : Int, (n : Int) / 2 = z := ⟨_, rfl⟩
  obtain ⟨M, hM⟩ : ∃ z : Int, HI + 1 = z := ⟨_, rfl⟩
  have mb : 1 ≤ M ∧ M ≤ 33 ∧ (n : Int) < 2 * M := by omega
  have qd : (n : Int).tdiv 2 = HI := by rw [Int.tdiv_eq_ediv_of_nonneg (by omega)]; exact hHI
  have hib : 0 ≤ HI ∧ HI ≤ 32 := by omega
  have hlv : ∀ w', InRow w' a len cap l → _ := fun w' h => levels_at a len cap l w' h ys n hy hn
  have hs0 := same_below (some_ok _ 3 3 [5, 9, 1] 2 5 2 _ (Row.lit w 3 [5, 9, 1] 3 rfl) (by omega) (by decide) (by omega) (by omega) (by decide))
  simp only [List.map_cons, List.map_nil] at hs0
  have hs1 : ∀ A c w', Row w' A n ys → _ := fun A c w' h => some_ok A n c ys M t f w' h hm hb (by omega) tb hf
  have hs2 : ∀ (L : List Int) g A m c w', m ≤ 64 → Btw 0 127 L → cnt t L = g → Row w' A m L → _ := fun L g A m c w' hm hb hg h => some_ok A m c L 1 t g w' h hm hb (by omega) tb hg
  have HLv := Lib.hid hlv
  have HS0 := Lib.hid hs0
  have HS1 := Lib.hid hs1
  have HS2 := Lib.hid hs2
  have HIn := Lib.hid hin
  have HN := Lib.hid hn
  have HB := Lib.hid hb
  have HF := Lib.hid hf
  have HB2 := Lib.hid hin'.1.each
  have mx := hin'.2.2.1
  have mc := hin'.2.1
  unfold maxLen at mx
  obtain ⟨i0, hi, hz0, hz1, hz2⟩ := info_parts info_int
  have qa := alloc_cells
  have qf := alloc_frozens
  clear hlv hs0 hs1 hs2 hin hin' hn hy hb hf hHI
  rcases Nat.eq_zero_or_pos n with h0 | h0
  · subst h0
    go_enter Try.func6, Try.ntmps6
    go_wp2_with fail
    refine (HS0.out).mono ?_
    rintro e w1 ⟨rfl, hb1⟩
    have z1 := hb1.size
    have c1 := Below.cells hb1
    have f1 := Below.frozens hb1
    try simp only [World.size_alloc, World.size_setCell, World.size_drew] at z1 c1 f1
    go_wp2_with fail
    refine (HLv.out _ (HIn.out.below (by repeat (first | (with_reducible exact Below.refl _ _) | ((with_reducible refine Below.alloc ?_ ?_ _); rotate_left; (next => ((try dsimp only); (try simp only [World.size_alloc, World.size_setCell, World.size_drew]); omega))) | ((with_reducible refine Below.setCell ?_ ?_ _); rotate_left; (next => ((try dsimp only); (try simp only [World.size_alloc, World.size_setCell, World.size_drew]); omega))) | (with_reducible refine Below.drew ?_) | ((with_reducible refine Below.trans ?_ (Below.mono hb1 ?_)); rotate_left; (next => ((try dsimp only); (try simp only [World.size_alloc, World.size_setCell, World.size_drew]); omega))))))).mono ?_
    rintro e w2 ⟨A, c, rfl, hrA, hb2⟩
    have RA := Lib.hid hrA.1
    have EA := Lib.hid hrA.1.each
    have IA := Lib.hid hrA
    have capA := hrA.2.1
    clear hrA
    have z2 := hb2.size
    have c2 := Below.cells hb2
    have f2 := Below.frozens hb2
    try simp only [World.size_alloc, World.size_setCell, World.size_drew] at z2 c2 f2
    go_wp2_with fail
    go_ret
    exact ⟨rfl, (by repeat (first | (with_reducible exact Below.refl _ _) | ((with_reducible refine Below.alloc ?_ ?_ _); rotate_left; (next => ((try dsimp only); (try simp only [World.size_alloc, World.size_setCell, World.size_drew]); omega))) | ((with_reducible refine Below.setCell ?_ ?_ _); rotate_left; (next => ((try dsimp only); (try simp only [World.size_alloc, World.size_setCell, World.size_drew]); omega))) | (with_reducible refine Below.drew ?_) | ((with_reducible refine Below.trans ?_ (Below.mono hb2 ?_)); rotate_left; (next => ((try dsimp only); (try simp only [World.size_alloc, World.size_setCell, World.size_drew]); omega))) | ((with_reducible refine Below.trans ?_ (Below.mono hb1 ?_)); rotate_left; (next => ((try dsimp only); (try simp only [World.size_alloc, World.size_setCell, World.size_drew]); omega)))))⟩
  · have hne : ((n : Int) == 0) = false := by simp; omega
    have hdec : ∀ b : Bool, decide (M ≤ f) = b → (b = true → M ≤ f) := fun b h hb => by subst hb; simpa using h
    obtain ⟨is, his⟩ : ∃ b : Bool, decide (M ≤ f) = b := ⟨_, rfl⟩
    have HIS := Lib.hid (hdec is his)
    rw [his] at HS1
    clear his hdec
    go_enter Try.func6, Try.ntmps6
    go_wp2_with fail
    refine (HS0.out).mono ?_
    rintro e w1 ⟨rfl, hb1⟩
    have z1 := hb1.size
    have c1 := Below.cells hb1
    have f1 := Below.frozens hb1
    try simp only [World.size_alloc, World.size_setCell, World.size_drew] at z1 c1 f1
    go_wp2_with fail
    refine (HLv.out _ (HIn.out.below (by repeat (first | (with_reducible exact Below.refl _ _) | ((with_reducible refine Below.alloc ?_ ?_ _); rotate_left; (next => ((try dsimp only); (try simp only [World.size_alloc, World.size_setCell, World.size_drew]); omega))) | ((with_reducible refine Below.setCell ?_ ?_ _); rotate_left; (next => ((try dsimp only); (try simp only [World.size_alloc, World.size_setCell, World.size_drew]); omega))) | (with_reducible refine Below.drew ?_) | ((with_reducible refine Below.trans ?_ (Below.mono hb1 ?_)); rotate_left; (next => ((try dsimp only); (try simp only [World.size_alloc, World.size_setCell, World.size_drew]); omega))))))).mono ?_
    rintro e w2 ⟨A, c, rfl, hrA, hb2⟩
    have RA := Lib.hid hrA.1
    have EA := Lib.hid hrA.1.each
    have IA := Lib.hid hrA
    have capA := hrA.2.1
    clear hrA
    have z2 := hb2.size
    have c2 := Below.cells hb2
    have f2 := Below.frozens hb2
    try simp only [World.size_alloc, World.size_setCell, World.size_drew] at z2 c2 f2
    go_wp2_with fail
    refine (within_any p 60 P _ (by omega) (by omega) HP.out).mono ?_
    rintro e w' ⟨rfl, rfl⟩
    go_wp2_with fail
    refine (HS1.out A c _ RA.out).mono ?_
    rintro e w' ⟨rfl, rfl⟩
    go_wp2_with fail
    have bel2 : Below w.heap.size w w2 := (by repeat (first | (with_reducible exact Below.refl _ _) | ((with_reducible refine Below.alloc ?_ ?_ _); rotate_left; (next => ((try dsimp only); (try simp only [World.size_alloc, World.size_setCell, World.size_drew]); omega))) | ((with_reducible refine Below.setCell ?_ ?_ _); rotate_left; (next => ((try dsimp only); (try simp only [World.size_alloc, World.size_setCell, World.size_drew]); omega))) | (with_reducible refine Below.drew ?_) | ((with_reducible refine Below.trans ?_ (Below.mono hb2 ?_)); rotate_left; (next => ((try dsimp only); (try simp only [World.size_alloc, World.size_setCell, World.size_drew]); omega))) | ((with_reducible refine Below.trans ?_ (Below.mono hb1 ?_)); rotate_left; (next => ((try dsimp only); (try simp only [World.size_alloc, World.size_setCell, World.size_drew]); omega)))))
    have HBel := Lib.hid bel2
    have HE2 := Lib.hid (cells_below HB2.out (w' := w2) bel2)
    clear bel2 c1 f1 c2 f2 qa qf
    go_loopw [12, 48] (fun v i wr => ∃ (k : Nat) (L : List Int), k ≤ n ∧ i = .int .i64 k ∧ Picked t ys k L ∧ wr.ownsRow w2.heap.size 3 1 v L.length (L.map (Value.int .i64)) ∧ Below w2.heap.size w2 wr) (fun _ i _ => n - (intOf i).toNat)
    case atStart => exact ⟨0, [], Nat.zero_le _, rfl, picked_nil _ _, World.ownsRow_nil _ _ _ _, Below.refl _ _⟩
    case round =>
      obtain ⟨k, L, hk, rfl, hpk, hown, bel⟩ := hrel
      have hsz := bel.size
      have hLk := hpk.1
      have HPK := Lib.hid hpk
      clear hpk
      by_cases hlt : k < n
      · obtain ⟨bky, offy, hAy, lty, hry⟩ := EA.out k hlt
        subst hAy
        replace hry := (bel.cell (p := ⟨bky, offy + k, none⟩) lty).trans hry
        obtain ⟨y, hvy, hxy⟩ := name_num hry
        have HY := Lib.hid hvy
        clear hvy hry
        have yb := HB.out.get (k := k) (by have := HN.out; omega)
        rw [← HY.out] at yb
        have hp1 : Picked t ys (k + 1) (L ++ [y]) := HPK.out.take' (by have := HN.out; omega) HY.out yb
        have hp2 : Picked t ys (k + 1) L := HPK.out.skip (by have := HN.out; omega)
        have HP1 := Lib.hid hp1
        have HP2 := Lib.hid hp2
        clear hp1 hp2
        by_cases hd : k < len'
        · obtain ⟨bkx, offx, hAx, ltx, hrx⟩ := HE2.out k hd
          subst hAx
          replace hrx := (bel.cell (p := ⟨bkx, offx + k, none⟩) ltx).trans hrx
          obtain ⟨x, hvx, hxx⟩ := name_num hrx
          have HX := Lib.hid hvx
          clear hvx hrx
          by_cases par : x.tmod 2 = 0
          · skip
            have dd : decide ((len' : Int) ≤ (k : Int)) = false := by simp; omega
            go_wp2_with (at_builtin; (refine wpList_append_own _ rfl _ _ 28 rfl (w2.heap.size) 3 i0 (.int .i64 0) 1 8 Try.underlying28 hi hz0 hz1 hz2 rfl (by decide) _ _ _ rfl (World.ownsRow.alloc hown _) ⟨wr.heap.size, 0, none⟩ 1 1 [.int .i64 (y)] rfl rfl (app1_cells _ _ _) (app1_one _ _) (by unfold maxLen; omega) (by omega) (by simp; omega) ?_))
            intro vq wq ownq grq _
            have own2 : wq.ownsRow w2.heap.size 3 1 vq (L ++ [y]).length ((L ++ [y]).map (Value.int .i64)) := by simpa [List.map_append] using ownq
            have bel2 := (bel.alloc hsz _).grown grq (by simp; omega) (fun g hg => (hown.lt g hg).1)
            have HO := Lib.hid own2
            clear ownq grq hown own2 bel
            go_wp2_with fail
            go_roundw
            case rel => exact ⟨k + 1, L ++ [y], by omega, by go_num, HP1.out, HO.out, bel2⟩
            case measure => simp [intOf]; omega
          · have par2 : (x.tmod 2 == 0) = false := by simpa using par
            have HO := Lib.hid hown
            clear hown
            go_wp2_with fail
            go_roundw
            case rel => exact ⟨k + 1, L, by omega, by go_num, HP2.out, HO.out, bel⟩
            case measure => simp [intOf]; omega
        · have d1 : decide ((len' : Int) ≤ (k : Int)) = true := by simp; omega
          go_wp2_with (at_builtin; (refine wpList_append_own _ rfl _ _ 28 rfl (w2.heap.size) 3 i0 (.int .i64 0) 1 8 Try.underlying28 hi hz0 hz1 hz2 rfl (by decide) _ _ _ rfl (World.ownsRow.alloc hown _) ⟨wr.heap.size, 0, none⟩ 1 1 [.int .i64 (y)] rfl rfl (app1_cells _ _ _) (app1_one _ _) (by unfold maxLen; omega) (by omega) (by simp; omega) ?_))
          intro vq wq ownq grq _
          have own2 : wq.ownsRow w2.heap.size 3 1 vq (L ++ [y]).length ((L ++ [y]).map (Value.int .i64)) := by simpa [List.map_append] using ownq
          have bel2 := (bel.alloc hsz _).grown grq (by simp; omega) (fun g hg => (hown.lt g hg).1)
          have HO := Lib.hid own2
          clear ownq grq hown own2 bel
          go_wp2_with fail
          go_roundw
          case rel => exact ⟨k + 1, L ++ [y], by omega, by go_num, HP1.out, HO.out, bel2⟩
          case measure => simp [intOf]; omega
      · obtain rfl : n = k := by omega
        have hp := HPK.out
        obtain ⟨_, hLb, hcl⟩ := hp
        rw [List.take_of_length_le (by have := HN.out; omega), HF.out] at hcl
        obtain ⟨A2, k2, rfl, q1, q2, q3⟩ := own_form hown
        have R2 := Lib.hid (Row.of_own hown)
        obtain ⟨m, hmL⟩ : ∃ m, L.length = m := ⟨_, rfl⟩
        rw [hmL] at R2 hcl hLk ⊢
        obtain ⟨g, hg⟩ : ∃ g, cnt t L = g := ⟨_, rfl⟩
        rw [hg] at hcl
        have S2 := Lib.hid (fun w' (h : Row w' A2 m L) => HS2.out L g A2 m k2 w' (by omega) hLb hg h)
        have hB := HBel.out.trans (bel.mono HBel.out.size)
        have hfin : is = true → ¬ (m : Int) < M → decide (1 ≤ g) = true := fun h1 h2 => by have := HIS.out h1; simp; omega
        have HFin := Lib.hid hfin
        clear hown hLb hcl hg q3 hmL bel hfin
        by_cases c1 : is = true
        · subst c1
          by_cases c2 : (m : Int) < M
          · go_wp2_with fail
            go_ret
            exact ⟨rfl, hB⟩
          · have e := HFin.out rfl c2
            have dm : decide ((m : Int) < M) = false := by simpa using c2
            go_wp2_with fail
            refine (S2.out _ R2.out).mono ?_
            rintro e w' ⟨rfl, rfl⟩
            go_wp2_with fail
            go_ret
            exact ⟨rfl, hB⟩
        · obtain rfl : is = false := by simpa using c1
          go_wp2_with fail
          go_ret
          exact ⟨rfl, hB⟩
end Go.Proofs.Ytamncanlbopehaa

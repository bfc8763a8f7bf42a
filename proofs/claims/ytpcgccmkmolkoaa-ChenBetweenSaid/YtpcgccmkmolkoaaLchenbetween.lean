import Derived.Test.YtpcgccmkmolkoaaLa
set_option linter.unusedSimpArgs false
set_option linter.unusedVariables false
namespace Go.Proofs.Ytpcgccmkmolkoaa
open Go.RowKit

set_option maxRecDepth 100000 in
set_option maxHeartbeats 16000000 in
theorem chenBetween_walk (a : Option Addr) (len cap : Nat) (l : List Int) (p : Int) (a' : Option Addr) (len' cap' : Nat) (l' : List Int) (w : World) (hin : InRow w a len cap l) (_ : (Lit.int .i64 p).wf = true) (hin' : InRow w a' len' cap' l') :
    Calls Try.prog 9 #[.slice a len cap, .int .i64 p, .slice a' len' cap'] w fun e w' =>
      e = .returned (.bool true) ∧ Below w.heap.size w w' := by
  obtain ⟨ks, n, hy, hn, hm, hris, hbd⟩ := rs_facts l
  have b1 := within_bd p (n := 1000) (by omega)
  obtain ⟨PE, e_PE⟩ : ∃ z_, within p 1000 = z_ := ⟨_, rfl⟩
  rw [e_PE] at b1
  have HPE := Lib.hid e_PE
  clear e_PE
  have hris' : ∀ w', InRow w' a len cap l → _ := fun w' h => rising_any a len cap l w' h ks n hy hn
  have HRis := Lib.hid hris'
  have HIn := Lib.hid hin
  have rises1 : Rises [1] := by intro k hk; match k, hk with | 0, _ => simp [prev]
  have hx1 := expect_ok _ _ 1 1 1 [1] [0] 5 5 _ (lit_fst w 3 3 [1] [0] 1 rfl) (lit_snd w 3 3 [1] [0] 1 rfl) (by omega) (by omega) (by omega) rises1 (by decide) (by decide)
  simp only [List.map_cons, List.map_nil] at hx1
  have HX1 := Lib.hid hx1
  have qa := alloc_cells
  have qf := alloc_frozens
  rcases Nat.eq_zero_or_pos n with h0 | h0
  · subst h0
    clear hris' hin hn hy hris hbd rises1 hx1
    go_enter Try.func9, Try.ntmps9
    go_wp2_with fail
    refine (HX1.out).mono ?_
    rintro e w' ⟨rfl, rfl⟩
    go_wp2_with fail
    refine (HRis.out _ (HIn.out.below (by repeat (first | (with_reducible exact Below.refl _ _) | ((with_reducible refine Below.alloc ?_ ?_ _); rotate_left; (next => ((try dsimp only); (try simp only [World.size_alloc, World.size_setCell, World.size_drew]); omega))) | ((with_reducible refine Below.setCell ?_ ?_ _); rotate_left; (next => ((try dsimp only); (try simp only [World.size_alloc, World.size_setCell, World.size_drew]); omega))) | (with_reducible refine Below.drew ?_) | (refine Below.trans ?_ (by assumption)))))).mono ?_
    rintro e w1 ⟨A, c, rfl, hrA, hb1⟩
    have RA := Lib.hid hrA.1
    have EA := Lib.hid hrA.1.each
    have IA := Lib.hid hrA
    have capA := hrA.2.1
    clear hrA
    have z1 := hb1.size
    have c1 := Below.cells hb1
    have f1 := Below.frozens hb1
    try simp only [World.size_alloc, World.size_setCell, World.size_drew] at z1 c1 f1
    go_wp2_with fail
    go_ret
    exact ⟨rfl, (by repeat (first | (with_reducible exact Below.refl _ _) | ((with_reducible refine Below.alloc ?_ ?_ _); rotate_left; (next => ((try dsimp only); (try simp only [World.size_alloc, World.size_setCell, World.size_drew]); omega))) | ((with_reducible refine Below.setCell ?_ ?_ _); rotate_left; (next => ((try dsimp only); (try simp only [World.size_alloc, World.size_setCell, World.size_drew]); omega))) | (with_reducible refine Below.drew ?_) | ((with_reducible refine Below.trans ?_ (Below.mono hb1 ?_)); rotate_left; (next => ((try dsimp only); (try simp only [World.size_alloc, World.size_setCell, World.size_drew]); omega)))))⟩
  · have hne : ((n : Int) == 0) = false := by simp; omega
    have hE : 1 ≤ 1 + PE ∧ 1 + PE ≤ 1000 := by omega
    obtain ⟨E, hEe⟩ : ∃ E, E = 1 + PE := ⟨_, rfl⟩
    obtain ⟨NX, hNX⟩ : ∃ NX, prev ks n + 1 = NX := ⟨_, rfl⟩
    have hlast : ks.getD (n - 1) 0 = NX - 1 := by rw [← hNX]; unfold prev; rw [if_neg (by omega)]; omega
    have hNb := hbd n (Nat.le_refl _)
    obtain ⟨ts, hts⟩ : ∃ ts, ts = lates 100000 l' n := ⟨_, rfl⟩
    have htl : ts.length = n := by rw [hts]; exact lates_len _ _ _
    have htg : ∀ k, k < n → ts.getD k 0 = if k < l'.length then within (l'.getD k 0) 100000 else 0 := fun k hk => by rw [hts]; exact lates_get _ _ hk
    have htb : Btw 0 99999 ts := by rw [hts]; exact lates_btw (by omega) _ _
    rw [hin'.1.len] at htg
    have hkb : ∀ k, k < n → 1 ≤ ks.getD k 0 ∧ ks.getD k 0 ≤ NX - 1 := by
      intro k hk
      have up : ∀ j, k + 1 + j ≤ n → ks.getD k 0 ≤ prev ks (k + 1 + j) := by
        intro j
        induction j with
        | zero => intro _; rw [Nat.add_zero, prev_succ]; omega
        | succ j ih =>
          intro hj
          have a := ih (by omega)
          have b := hris (k + 1 + j) (by omega)
          rw [show k + 1 + (j + 1) = (k + 1 + j) + 1 by omega, prev_succ]
          omega
      have c := up (n - (k + 1)) (by omega)
      rw [show k + 1 + (n - (k + 1)) = n by omega] at c
      have d := hris k (by omega)
      have e := hbd k (by omega)
      omega
    have hvb : ∀ k, k < n → 0 ≤ E * (NX - ks.getD k 0) ∧ E * (NX - ks.getD k 0) ≤ 577000 := by
      intro k hk
      have := hkb k hk
      exact ⟨Int.mul_nonneg (by omega) (by omega), Int.le_trans (Int.mul_le_mul (a := E) (b := NX - ks.getD k 0) (c := 1000) (d := 577) (by omega) (by omega) (by omega) (by omega)) (by omega)⟩
    obtain ⟨vv, hvv⟩ : ∃ vv : Nat → Int, vv = fun k => ts.getD k 0 + E * (NX - ks.getD k 0) := ⟨_, rfl⟩
    have hv : ∀ k, k < n → vv k = ts.getD k 0 + E * (NX - ks.getD k 0) := fun k _ => by rw [hvv]
    obtain ⟨X, hX⟩ : ∃ X, sumI (devs E ts ks) / n + E * (prev ks n + 1) = X := ⟨_, rfl⟩
    have hfin : ∀ F L, (∀ j, j < n → F ≤ vv j ∧ vv j ≤ L) → F ≤ X ∧ X ≤ L := by
      intro F L h
      have hd : Btw (F - E * NX) (L - E * NX) (devs E ts ks) := by
        intro y hy'
        obtain ⟨k, hk, rfl⟩ := List.getElem_of_mem hy'
        have hl := devs_len (e := E) htl hn
        have g : (devs E ts ks)[k] = (devs E ts ks).getD k 0 := by simp [List.getD, hk]
        rw [g, devs_get htl hn (by omega)]
        have := h k (by omega)
        rw [hv k (by omega), Int.mul_sub] at this
        omega
      have := avg_btw hd (by rw [devs_len (e := E) htl hn]; exact h0)
      rw [devs_len (e := E) htl hn] at this
      rw [← hX, hNX]
      omega
    have hexp : ∀ A A' c c' w', Row w' A n ks → Row w' A' n ts → _ := fun A A' c c' w' h h' => expect_ok A A' n c c' ks ts E X w' h h' h0 hm (by omega) hris (fun x hx => by have := htb x hx; omega) hX
    have HExp := Lib.hid hexp
    have HFin := Lib.hid hfin
    have HV := Lib.hid hv
    have HVb := Lib.hid hvb
    have HKb := Lib.hid hkb
    have HTg := Lib.hid htg
    have HTl := Lib.hid htl
    have HTb := Lib.hid htb
    have HLast := Lib.hid hlast
    have HB2 := Lib.hid hin'.1.each
    obtain ⟨i0, hi, hz0, hz1, hz2⟩ := info_parts info_int
    have mx := hin'.2.2.1
    have mc := hin'.2.1
    unfold maxLen at mx
    have hEE : 1 + PE = E := hEe.symm
    have eE : 1 ≤ E ∧ E ≤ 1000 := by omega
    have nb : 1 ≤ NX ∧ NX ≤ 577 := by omega
    clear hris' hexp hfin hv hvb htg htl htb hlast hin hin' hn hy hris hbd hX hkb hvv hts hE hNb hNX hEe rises1 hx1
    go_enter Try.func9, Try.ntmps9
    go_wp2_with fail
    refine (HX1.out).mono ?_
    rintro e w' ⟨rfl, rfl⟩
    go_wp2_with fail
    refine (HRis.out _ (HIn.out.below (by repeat (first | (with_reducible exact Below.refl _ _) | ((with_reducible refine Below.alloc ?_ ?_ _); rotate_left; (next => ((try dsimp only); (try simp only [World.size_alloc, World.size_setCell, World.size_drew]); omega))) | ((with_reducible refine Below.setCell ?_ ?_ _); rotate_left; (next => ((try dsimp only); (try simp only [World.size_alloc, World.size_setCell, World.size_drew]); omega))) | (with_reducible refine Below.drew ?_) | (refine Below.trans ?_ (by assumption)))))).mono ?_
    rintro e w1 ⟨A, c, rfl, hrA, hb1⟩
    have cA := hrA.2.1
    have RA := Lib.hid hrA.1
    obtain ⟨b, off, rfl, ltA, hcA⟩ := hrA.1.at h0
    have HcA := Lib.hid hcA
    have hl1 := hcA (n - 1) (by omega)
    rw [HLast.out] at hl1
    have bel1 : Below w.heap.size w w1 := (by repeat (first | (with_reducible exact Below.refl _ _) | ((with_reducible refine Below.alloc ?_ ?_ _); rotate_left; (next => ((try dsimp only); (try simp only [World.size_alloc, World.size_setCell, World.size_drew]); omega))) | ((with_reducible refine Below.setCell ?_ ?_ _); rotate_left; (next => ((try dsimp only); (try simp only [World.size_alloc, World.size_setCell, World.size_drew]); omega))) | (with_reducible refine Below.drew ?_) | ((with_reducible refine Below.trans ?_ (Below.mono hb1 ?_)); rotate_left; (next => ((try dsimp only); (try simp only [World.size_alloc, World.size_setCell, World.size_drew]); omega)))))
    have HBel := Lib.hid bel1
    have HE2 := Lib.hid (cells_below HB2.out (w' := w1) bel1)
    clear hcA hrA hb1 bel1 qa qf
    go_wp2_with fail
    refine (within_any p 1000 PE _ (by omega) (by omega) HPE.out).mono ?_
    rintro e w' ⟨rfl, rfl⟩
    go_wp2_with fail
    go_loopw [11, 12, 13, 48] (fun v f z i wr => ∃ (k : Nat) (F L : Int), k ≤ n ∧ i = .int .i64 k ∧ f = .int .i64 F ∧ z = .int .i64 L ∧ (-1099511627776 ≤ F ∧ F ≤ 1099511627776) ∧ (-1099511627776 ≤ L ∧ L ≤ 1099511627776) ∧ (∀ j, j < k → F ≤ vv j ∧ vv j ≤ L) ∧
        wr.ownsRow w1.heap.size 3 1 v k ((List.take k ts).map (Value.int .i64)) ∧ Below w1.heap.size w1 wr) (fun _ _ _ i _ => n - (intOf i).toNat)
    case atStart => exact ⟨0, 1099511627776, -1099511627776, Nat.zero_le _, rfl, rfl, rfl, by omega, by omega, fun j hj => absurd hj (by omega), World.ownsRow_nil _ _ _ _, Below.refl _ _⟩
    case round =>
      obtain ⟨k, F, L, hk, rfl, rfl, rfl, fb, lb, hfl, hown, bel⟩ := hrel
      have hsz := bel.size
      by_cases hlt : k < n
      · have hcy := (bel.cell (p := ⟨b, off + k, none⟩) ltA).trans (HcA.out k hlt)
        obtain ⟨y, hyv, hyc⟩ := name_num hcy
        have HY := Lib.hid hyv
        have vb := HVb.out k hlt
        have kb := HKb.out k hlt
        rw [← hyv] at vb kb
        have hg := HTg.out k hlt
        clear hcy hyv hl1
        by_cases hd : k < len'
        · rw [if_pos hd] at hg
          obtain ⟨bkx, offx, hAx, ltx, hrx⟩ := HE2.out k hd
          subst hAx
          replace hrx := (bel.cell (p := ⟨bkx, offx + k, none⟩) ltx).trans hrx
          obtain ⟨x, hvx, hxx⟩ := name_num hrx
          have HX := Lib.hid hvx
          clear hvx hrx
          rw [← HX.out] at hg
          obtain ⟨d, hdv⟩ : ∃ d, d = within x 100000 := ⟨_, rfl⟩
          have db := within_bd x (n := 100000) (by omega)
          rw [← hdv] at hg db
          have HD := Lib.hid hdv
          clear hdv
          by_cases c1 : (d + E * (NX - y)) < F
          · by_cases c2 : L < (d + E * (NX - y))
            · have htk : List.take (k + 1) ts = List.take k ts ++ [d] := by rw [take_snoc _ (by have := HTl.out; omega), hg]
              have hv : (d + E * (NX - y)) ≤ 677000 ∧ 0 ≤ (d + E * (NX - y)) := by omega
              have HT := Lib.hid htk
              have hnew : ∀ j, j < k + 1 → (d + E * (NX - y)) ≤ vv j ∧ vv j ≤ (d + E * (NX - y)) := by
                intro j hj
                by_cases e : j = k
                · subst e; rw [HV.out j (by omega), hg, ← HY.out]; omega
                · have := hfl j (by omega); omega
              have HNew := Lib.hid hnew
              clear htk hnew hg hfl
              go_wp2_with fail
              refine (within_any x 100000 d _ (by omega) (by omega) HD.out.symm).mono ?_
              rintro e w' ⟨rfl, rfl⟩
              go_wp2_with (at_builtin; (refine wpList_append_own _ rfl _ _ 32 rfl (w1.heap.size) 3 i0 (.int .i64 0) 1 8 Try.underlying32 hi hz0 hz1 hz2 rfl (by decide) _ _ _ rfl (World.ownsRow.alloc hown _) ⟨wr.heap.size, 0, none⟩ 1 1 [.int .i64 (d)] rfl rfl (app1_cells _ _ _) (app1_one _ _) (by unfold maxLen; omega) (by omega) (by simp; omega) ?_))
              intro vq wq ownq grq _
              have own2 : wq.ownsRow w1.heap.size 3 1 vq (k + 1) ((List.take (k + 1) ts).map (Value.int .i64)) := by rw [HT.out]; simpa [List.map_append, List.map_take] using ownq
              have bel2 := (bel.alloc hsz _).grown grq (by simp; omega) (fun g hg => (hown.lt g hg).1)
              have HO := Lib.hid own2
              clear ownq grq hown own2 bel
              go_wp2_with fail
              go_roundw
              case rel => exact ⟨k + 1, (d + E * (NX - y)), (d + E * (NX - y)), by omega, by go_num, rfl, rfl, by omega, by omega, HNew.out, HO.out, bel2⟩
              case measure => simp [intOf]; omega
            · have htk : List.take (k + 1) ts = List.take k ts ++ [d] := by rw [take_snoc _ (by have := HTl.out; omega), hg]
              have hv : (d + E * (NX - y)) ≤ 677000 ∧ 0 ≤ (d + E * (NX - y)) := by omega
              have HT := Lib.hid htk
              have hnew : ∀ j, j < k + 1 → (d + E * (NX - y)) ≤ vv j ∧ vv j ≤ L := by
                intro j hj
                by_cases e : j = k
                · subst e; rw [HV.out j (by omega), hg, ← HY.out]; omega
                · have := hfl j (by omega); omega
              have HNew := Lib.hid hnew
              clear htk hnew hg hfl
              go_wp2_with fail
              refine (within_any x 100000 d _ (by omega) (by omega) HD.out.symm).mono ?_
              rintro e w' ⟨rfl, rfl⟩
              go_wp2_with (at_builtin; (refine wpList_append_own _ rfl _ _ 32 rfl (w1.heap.size) 3 i0 (.int .i64 0) 1 8 Try.underlying32 hi hz0 hz1 hz2 rfl (by decide) _ _ _ rfl (World.ownsRow.alloc hown _) ⟨wr.heap.size, 0, none⟩ 1 1 [.int .i64 (d)] rfl rfl (app1_cells _ _ _) (app1_one _ _) (by unfold maxLen; omega) (by omega) (by simp; omega) ?_))
              intro vq wq ownq grq _
              have own2 : wq.ownsRow w1.heap.size 3 1 vq (k + 1) ((List.take (k + 1) ts).map (Value.int .i64)) := by rw [HT.out]; simpa [List.map_append, List.map_take] using ownq
              have bel2 := (bel.alloc hsz _).grown grq (by simp; omega) (fun g hg => (hown.lt g hg).1)
              have HO := Lib.hid own2
              clear ownq grq hown own2 bel
              go_wp2_with fail
              go_roundw
              case rel => exact ⟨k + 1, (d + E * (NX - y)), L, by omega, by go_num, rfl, rfl, by omega, by omega, HNew.out, HO.out, bel2⟩
              case measure => simp [intOf]; omega
          · by_cases c2 : L < (d + E * (NX - y))
            · have htk : List.take (k + 1) ts = List.take k ts ++ [d] := by rw [take_snoc _ (by have := HTl.out; omega), hg]
              have hv : (d + E * (NX - y)) ≤ 677000 ∧ 0 ≤ (d + E * (NX - y)) := by omega
              have HT := Lib.hid htk
              have hnew : ∀ j, j < k + 1 → F ≤ vv j ∧ vv j ≤ (d + E * (NX - y)) := by
                intro j hj
                by_cases e : j = k
                · subst e; rw [HV.out j (by omega), hg, ← HY.out]; omega
                · have := hfl j (by omega); omega
              have HNew := Lib.hid hnew
              clear htk hnew hg hfl
              go_wp2_with fail
              refine (within_any x 100000 d _ (by omega) (by omega) HD.out.symm).mono ?_
              rintro e w' ⟨rfl, rfl⟩
              go_wp2_with (at_builtin; (refine wpList_append_own _ rfl _ _ 32 rfl (w1.heap.size) 3 i0 (.int .i64 0) 1 8 Try.underlying32 hi hz0 hz1 hz2 rfl (by decide) _ _ _ rfl (World.ownsRow.alloc hown _) ⟨wr.heap.size, 0, none⟩ 1 1 [.int .i64 (d)] rfl rfl (app1_cells _ _ _) (app1_one _ _) (by unfold maxLen; omega) (by omega) (by simp; omega) ?_))
              intro vq wq ownq grq _
              have own2 : wq.ownsRow w1.heap.size 3 1 vq (k + 1) ((List.take (k + 1) ts).map (Value.int .i64)) := by rw [HT.out]; simpa [List.map_append, List.map_take] using ownq
              have bel2 := (bel.alloc hsz _).grown grq (by simp; omega) (fun g hg => (hown.lt g hg).1)
              have HO := Lib.hid own2
              clear ownq grq hown own2 bel
              go_wp2_with fail
              go_roundw
              case rel => exact ⟨k + 1, F, (d + E * (NX - y)), by omega, by go_num, rfl, rfl, by omega, by omega, HNew.out, HO.out, bel2⟩
              case measure => simp [intOf]; omega
            · have htk : List.take (k + 1) ts = List.take k ts ++ [d] := by rw [take_snoc _ (by have := HTl.out; omega), hg]
              have hv : (d + E * (NX - y)) ≤ 677000 ∧ 0 ≤ (d + E * (NX - y)) := by omega
              have HT := Lib.hid htk
              have hnew : ∀ j, j < k + 1 → F ≤ vv j ∧ vv j ≤ L := by
                intro j hj
                by_cases e : j = k
                · subst e; rw [HV.out j (by omega), hg, ← HY.out]; omega
                · have := hfl j (by omega); omega
              have HNew := Lib.hid hnew
              clear htk hnew hg hfl
              go_wp2_with fail
              refine (within_any x 100000 d _ (by omega) (by omega) HD.out.symm).mono ?_
              rintro e w' ⟨rfl, rfl⟩
              go_wp2_with (at_builtin; (refine wpList_append_own _ rfl _ _ 32 rfl (w1.heap.size) 3 i0 (.int .i64 0) 1 8 Try.underlying32 hi hz0 hz1 hz2 rfl (by decide) _ _ _ rfl (World.ownsRow.alloc hown _) ⟨wr.heap.size, 0, none⟩ 1 1 [.int .i64 (d)] rfl rfl (app1_cells _ _ _) (app1_one _ _) (by unfold maxLen; omega) (by omega) (by simp; omega) ?_))
              intro vq wq ownq grq _
              have own2 : wq.ownsRow w1.heap.size 3 1 vq (k + 1) ((List.take (k + 1) ts).map (Value.int .i64)) := by rw [HT.out]; simpa [List.map_append, List.map_take] using ownq
              have bel2 := (bel.alloc hsz _).grown grq (by simp; omega) (fun g hg => (hown.lt g hg).1)
              have HO := Lib.hid own2
              clear ownq grq hown own2 bel
              go_wp2_with fail
              go_roundw
              case rel => exact ⟨k + 1, F, L, by omega, by go_num, rfl, rfl, by omega, by omega, HNew.out, HO.out, bel2⟩
              case measure => simp [intOf]; omega
        · rw [if_neg hd] at hg
          by_cases c1 : (E * (NX - y)) < F
          · by_cases c2 : L < (E * (NX - y))
            · have htk : List.take (k + 1) ts = List.take k ts ++ [0] := by rw [take_snoc _ (by have := HTl.out; omega), hg]
              have hv : (E * (NX - y)) ≤ 677000 ∧ 0 ≤ (E * (NX - y)) := by omega
              have HT := Lib.hid htk
              have hnew : ∀ j, j < k + 1 → (E * (NX - y)) ≤ vv j ∧ vv j ≤ (E * (NX - y)) := by
                intro j hj
                by_cases e : j = k
                · subst e; rw [HV.out j (by omega), hg, ← HY.out]; omega
                · have := hfl j (by omega); omega
              have HNew := Lib.hid hnew
              clear htk hnew hg hfl
              go_wp2_with (at_builtin; (refine wpList_append_own _ rfl _ _ 32 rfl (w1.heap.size) 3 i0 (.int .i64 0) 1 8 Try.underlying32 hi hz0 hz1 hz2 rfl (by decide) _ _ _ rfl (World.ownsRow.alloc hown _) ⟨wr.heap.size, 0, none⟩ 1 1 [.int .i64 (0)] rfl rfl (app1_cells _ _ _) (app1_one _ _) (by unfold maxLen; omega) (by omega) (by simp; omega) ?_))
              intro vq wq ownq grq _
              have own2 : wq.ownsRow w1.heap.size 3 1 vq (k + 1) ((List.take (k + 1) ts).map (Value.int .i64)) := by rw [HT.out]; simpa [List.map_append, List.map_take] using ownq
              have bel2 := (bel.alloc hsz _).grown grq (by simp; omega) (fun g hg => (hown.lt g hg).1)
              have HO := Lib.hid own2
              clear ownq grq hown own2 bel
              go_wp2_with fail
              go_roundw
              case rel => exact ⟨k + 1, (E * (NX - y)), (E * (NX - y)), by omega, by go_num, rfl, rfl, by omega, by omega, HNew.out, HO.out, bel2⟩
              case measure => simp [intOf]; omega
            · have htk : List.take (k + 1) ts = List.take k ts ++ [0] := by rw [take_snoc _ (by have := HTl.out; omega), hg]
              have hv : (E * (NX - y)) ≤ 677000 ∧ 0 ≤ (E * (NX - y)) := by omega
              have HT := Lib.hid htk
              have hnew : ∀ j, j < k + 1 → (E * (NX - y)) ≤ vv j ∧ vv j ≤ L := by
                intro j hj
                by_cases e : j = k
                · subst e; rw [HV.out j (by omega), hg, ← HY.out]; omega
                · have := hfl j (by omega); omega
              have HNew := Lib.hid hnew
              clear htk hnew hg hfl
              go_wp2_with (at_builtin; (refine wpList_append_own _ rfl _ _ 32 rfl (w1.heap.size) 3 i0 (.int .i64 0) 1 8 Try.underlying32 hi hz0 hz1 hz2 rfl (by decide) _ _ _ rfl (World.ownsRow.alloc hown _) ⟨wr.heap.size, 0, none⟩ 1 1 [.int .i64 (0)] rfl rfl (app1_cells _ _ _) (app1_one _ _) (by unfold maxLen; omega) (by omega) (by simp; omega) ?_))
              intro vq wq ownq grq _
              have own2 : wq.ownsRow w1.heap.size 3 1 vq (k + 1) ((List.take (k + 1) ts).map (Value.int .i64)) := by rw [HT.out]; simpa [List.map_append, List.map_take] using ownq
              have bel2 := (bel.alloc hsz _).grown grq (by simp; omega) (fun g hg => (hown.lt g hg).1)
              have HO := Lib.hid own2
              clear ownq grq hown own2 bel
              go_wp2_with fail
              go_roundw
              case rel => exact ⟨k + 1, (E * (NX - y)), L, by omega, by go_num, rfl, rfl, by omega, by omega, HNew.out, HO.out, bel2⟩
              case measure => simp [intOf]; omega
          · by_cases c2 : L < (E * (NX - y))
            · have htk : List.take (k + 1) ts = List.take k ts ++ [0] := by rw [take_snoc _ (by have := HTl.out; omega), hg]
              have hv : (E * (NX - y)) ≤ 677000 ∧ 0 ≤ (E * (NX - y)) := by omega
              have HT := Lib.hid htk
              have hnew : ∀ j, j < k + 1 → F ≤ vv j ∧ vv j ≤ (E * (NX - y)) := by
                intro j hj
                by_cases e : j = k
                · subst e; rw [HV.out j (by omega), hg, ← HY.out]; omega
                · have := hfl j (by omega); omega
              have HNew := Lib.hid hnew
              clear htk hnew hg hfl
              go_wp2_with (at_builtin; (refine wpList_append_own _ rfl _ _ 32 rfl (w1.heap.size) 3 i0 (.int .i64 0) 1 8 Try.underlying32 hi hz0 hz1 hz2 rfl (by decide) _ _ _ rfl (World.ownsRow.alloc hown _) ⟨wr.heap.size, 0, none⟩ 1 1 [.int .i64 (0)] rfl rfl (app1_cells _ _ _) (app1_one _ _) (by unfold maxLen; omega) (by omega) (by simp; omega) ?_))
              intro vq wq ownq grq _
              have own2 : wq.ownsRow w1.heap.size 3 1 vq (k + 1) ((List.take (k + 1) ts).map (Value.int .i64)) := by rw [HT.out]; simpa [List.map_append, List.map_take] using ownq
              have bel2 := (bel.alloc hsz _).grown grq (by simp; omega) (fun g hg => (hown.lt g hg).1)
              have HO := Lib.hid own2
              clear ownq grq hown own2 bel
              go_wp2_with fail
              go_roundw
              case rel => exact ⟨k + 1, F, (E * (NX - y)), by omega, by go_num, rfl, rfl, by omega, by omega, HNew.out, HO.out, bel2⟩
              case measure => simp [intOf]; omega
            · have htk : List.take (k + 1) ts = List.take k ts ++ [0] := by rw [take_snoc _ (by have := HTl.out; omega), hg]
              have hv : (E * (NX - y)) ≤ 677000 ∧ 0 ≤ (E * (NX - y)) := by omega
              have HT := Lib.hid htk
              have hnew : ∀ j, j < k + 1 → F ≤ vv j ∧ vv j ≤ L := by
                intro j hj
                by_cases e : j = k
                · subst e; rw [HV.out j (by omega), hg, ← HY.out]; omega
                · have := hfl j (by omega); omega
              have HNew := Lib.hid hnew
              clear htk hnew hg hfl
              go_wp2_with (at_builtin; (refine wpList_append_own _ rfl _ _ 32 rfl (w1.heap.size) 3 i0 (.int .i64 0) 1 8 Try.underlying32 hi hz0 hz1 hz2 rfl (by decide) _ _ _ rfl (World.ownsRow.alloc hown _) ⟨wr.heap.size, 0, none⟩ 1 1 [.int .i64 (0)] rfl rfl (app1_cells _ _ _) (app1_one _ _) (by unfold maxLen; omega) (by omega) (by simp; omega) ?_))
              intro vq wq ownq grq _
              have own2 : wq.ownsRow w1.heap.size 3 1 vq (k + 1) ((List.take (k + 1) ts).map (Value.int .i64)) := by rw [HT.out]; simpa [List.map_append, List.map_take] using ownq
              have bel2 := (bel.alloc hsz _).grown grq (by simp; omega) (fun g hg => (hown.lt g hg).1)
              have HO := Lib.hid own2
              clear ownq grq hown own2 bel
              go_wp2_with fail
              go_roundw
              case rel => exact ⟨k + 1, F, L, by omega, by go_num, rfl, rfl, by omega, by omega, HNew.out, HO.out, bel2⟩
              case measure => simp [intOf]; omega
      · obtain rfl : n = k := by omega
        have hfx := HFin.out F L hfl
        rw [List.take_of_length_le (by have := HTl.out; omega)] at hown
        obtain ⟨A2, c2, rfl, q1, q2, q3⟩ := own_form hown
        have R2 := Lib.hid (Row.of_own hown)
        have R1 := Lib.hid (RA.out.below (w' := wr) bel)
        have hB := HBel.out.trans (bel.mono HBel.out.size)
        clear hown hfl hl1 bel
        go_wp2_with fail
        refine (HExp.out _ A2 c c2 _ R1.out R2.out).mono ?_
        rintro e w' ⟨rfl, rfl⟩
        go_wp2_with fail
        go_ret
        exact ⟨rfl, hB⟩
end Go.Proofs.Ytpcgccmkmolkoaa

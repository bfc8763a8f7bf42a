import Derived.Test.YtgiipelonojgaaaSu
import Derived.Test.YtgiipelonojgaaaRo
import Derived.Test.YtgiipelonojgaaaRis
set_option linter.unusedSimpArgs false
set_option linter.unusedVariables false
namespace Go.Proofs.Ytgiipelonojgaaa
open Go.RowKit

/-- At most 64 numbers below 100000. -/
def sm64 (l : List Int) : List Int := (l.take 64).map fun x => within x 100000
theorem sm64_len (l : List Int) : (sm64 l).length = min 64 l.length := by simp [sm64]
theorem sm64_btw (l : List Int) : Btw 0 99999 (sm64 l) := by
  intro x hx
  obtain ⟨y, _, rfl⟩ := List.mem_map.1 hx
  have := within_bd y (n := 100000) (by omega)
  omega
theorem sm64_get {l : List Int} {k : Nat} (h : k < (sm64 l).length) : (sm64 l).getD k 0 = within (l.getD k 0) 100000 := by
  have h2 := h
  rw [sm64_len] at h2
  simp [sm64, List.getD, List.getElem?_take, show k < 64 by omega, show k < l.length by omega]
theorem sm64_pack {w : World} {a : Option Addr} {len cap : Nat} (l : List Int) (h : InRow w a len cap l) : ∃ (ys : List Int) (n : Nat), ys.length = n ∧ n ≤ 64 ∧ ((len ≤ n ∧ n ≤ len ∧ (len : Int) ≤ 64) ∨ (¬ (len : Int) ≤ 64 ∧ n ≤ 64 ∧ 64 ≤ n)) ∧ n ≤ len ∧
    (∀ k, k < n → ys.getD k 0 = within (l.getD k 0) 100000) ∧ Btw 0 99999 ys := by
  have hl := h.1.len
  refine ⟨sm64 l, _, rfl, by rw [sm64_len]; omega, ?_, by rw [sm64_len]; omega, fun k hk => sm64_get hk, sm64_btw l⟩
  rw [sm64_len, hl]
  by_cases c : len ≤ 64
  · exact .inl ⟨by omega, by omega, by omega⟩
  · exact .inr ⟨by omega, by omega, by omega⟩
/-- What a list of values gives to the sums. -/
theorem sums_pack {l : List Int} {n : Nat} (hn : l.length = n) (h : n ≤ 64) (hb : Btw 0 16777216 l) : ∃ S Q X : Int, sumI l = S ∧ sqI l = Q ∧ (n : Int) * Q - S * S = X ∧ spr l = X ∧ SumsOK n S Q := by
  subst hn
  exact ⟨_, _, _, rfl, rfl, rfl, rfl, sumsOK_of hb h⟩

set_option maxRecDepth 100000 in
set_option maxHeartbeats 16000000 in
theorem statMoved_walk (a : Option Addr) (len cap : Nat) (l : List Int) (p q r : Int) (w : World) (hin : InRow w a len cap l) (_ : (Lit.int .i64 p).wf = true) (_ : (Lit.int .i64 q).wf = true) (_ : (Lit.int .i64 r).wf = true) :
    Calls Try.prog 3 #[.slice a len cap, .int .i64 p, .int .i64 q, .int .i64 r] w fun e w' =>
      e = .returned (.bool true) ∧ Below w.heap.size w w' := by
  obtain ⟨xs, n, hn, n64, hcs, hnl, hget, hb⟩ := sm64_pack l hin
  have b1 := within_bd p (n := 1000) (by omega)
  have b2 := within_bd q (n := 100) (by omega)
  obtain ⟨BY, e_BY⟩ : ∃ z_, within p 1000 = z_ := ⟨_, rfl⟩
  rw [e_BY] at b1
  have HBY := Lib.hid e_BY
  clear e_BY
  obtain ⟨TM, e_TM⟩ : ∃ z_, within q 100 = z_ := ⟨_, rfl⟩
  rw [e_TM] at b2
  have HTM := Lib.hid e_TM
  clear e_TM
  obtain ⟨t, ht⟩ : ∃ t : Nat, 0 < n → within r n = (t : Int) ∧ t < n := by
    rcases Nat.eq_zero_or_pos n with h0 | h0
    · exact ⟨0, fun h => by omega⟩
    · have b3 := within_bd r (n := (n : Int)) (by omega)
      exact ⟨(within r n).toNat, fun _ => by omega⟩
  obtain ⟨T1, hT1⟩ : ∃ T, addI BY xs = T := ⟨_, rfl⟩
  obtain ⟨T2, hT2⟩ : ∃ T, mulI TM xs = T := ⟨_, rfl⟩
  obtain ⟨T3, hT3⟩ : ∃ T, rot t xs = T := ⟨_, rfl⟩
  have l1 : T1.length = n := by rw [← hT1, addI_len, hn]
  have l2 : T2.length = n := by rw [← hT2, mulI_len, hn]
  have l3 : T3.length = n := by rw [← hT3, rot_len, hn]
  have g1 : ∀ k, k < n → T1.getD k 0 = xs.getD k 0 + BY := fun k hk => by rw [← hT1]; exact addI_get (by omega)
  have g2 : ∀ k, k < n → T2.getD k 0 = xs.getD k 0 * TM := fun k hk => by rw [← hT2]; exact mulI_get (by omega)
  have g3 : ∀ k, k < n → T3.getD k 0 = xs.getD ((k + t) % n) 0 := fun k hk => by rw [← hT3, rot_get (by have := ht (by omega); omega) (by omega), hn]
  have v0 : Btw 0 16777216 xs := hb.mono (by omega) (by omega)
  have v1 : Btw 0 16777216 T1 := by rw [← hT1]; exact (addI_btw hb).mono (by omega) (by omega)
  have v2 : Btw 0 16777216 T2 := by rw [← hT2]; exact (mulI_btw b2.1 hb).mono (by omega) (by omega)
  have v3 : Btw 0 16777216 T3 := by rw [← hT3]; exact rot_btw v0
  have sb := sqI_bd hb
  have sb2 := sumI_bd hb
  obtain ⟨S, Q, X, hS, hQ, hX, hsp, ok⟩ := sums_pack hn n64 v0
  obtain ⟨S1, Q1, X1, hS1, hQ1, hX1, hsp1, ok1⟩ := sums_pack l1 n64 v1
  obtain ⟨S2, Q2, X2, hS2, hQ2, hX2, hsp2, ok2⟩ := sums_pack l2 n64 v2
  obtain ⟨S3, Q3, X3, hS3, hQ3, hX3, hsp3, ok3⟩ := sums_pack l3 n64 v3
  have x1 : X1 = X := by rw [← hsp1, ← hT1, addI_spr, hsp]
  have x2 : X2 = X * TM * TM := by rw [← hsp2, ← hT2, mulI_spr, hsp, Int.mul_assoc]
  have x3 : X3 = X := by rw [← hsp3, ← hT3, rot_spr, hsp]
  rw [hn, hS] at sb2
  rw [hS, hQ] at sb
  have bd := ok.bd
  have Qb : 0 ≤ Q ∧ Q ≤ 640000000000 := by omega
  have p1 := mul_bd (a := (n : Int)) (b := Q) (A := 64) (B := 640000000000) (by omega) Qb
  have s1 := sq_nonneg S
  have Xb : 0 ≤ X ∧ X ≤ 40960000000000 := by omega
  have p2 := mul_bd Xb (b := TM) (B := 99) (by omega)
  have p3 := mul_bd p2 (b := TM) (B := 99) (by omega)
  have hE : (X2 == X * TM * TM) = true := by simpa using x2
  subst x1 x3
  have hb1 : ∀ k, k < n → ∃ b off, a = some ⟨b, off, none⟩ ∧ b < w.heap.size ∧ w.cell? ⟨b, off + k, none⟩ = some (.int .i64 (l.getD k 0)) := fun k hk => hin.1.each k (by omega)
  have cp := hin.2.1
  have mx := hin.2.2.1
  unfold maxLen at mx
  have h0 : ∀ A c w', Row w' A n xs → _ := fun A c w' h => sums_ok A n c xs S Q w' h (by omega) v0 hS hQ
  have h1 : ∀ A c w', Row w' A n T1 → _ := fun A c w' h => sums_ok A n c T1 S1 Q1 w' h (by omega) v1 hS1 hQ1
  have h2 : ∀ A c w', Row w' A n T2 → _ := fun A c w' h => sums_ok A n c T2 S2 Q2 w' h (by omega) v2 hS2 hQ2
  have h3 : ∀ A c w', Row w' A n T3 → _ := fun A c w' h => sums_ok A n c T3 S3 Q3 w' h (by omega) v3 hS3 hQ3
  have H0 := Lib.hid h0
  have H1 := Lib.hid h1
  have H2 := Lib.hid h2
  have H3 := Lib.hid h3
  have P0 := Lib.hid (fun w' => spread_ok n S Q _ ok hX w')
  have P1 := Lib.hid (fun w' => spread_ok n S1 Q1 _ ok1 hX1 w')
  have P2 := Lib.hid (fun w' => spread_ok n S2 Q2 _ ok2 hX2 w')
  have P3 := Lib.hid (fun w' => spread_ok n S3 Q3 _ ok3 hX3 w')
  have HB1 := Lib.hid hb1
  have HG := Lib.hid hget
  have HN := Lib.hid hn
  have HG1 := Lib.hid g1
  have HG2 := Lib.hid g2
  have HG3 := Lib.hid g3
  have HL1 := Lib.hid l1
  have HL2 := Lib.hid l2
  have HL3 := Lib.hid l3
  have HT := Lib.hid ht
  have HXB := Lib.hid hb
  obtain ⟨i0, hi, hz0, hz1, hz2⟩ := info_parts info_int
  have qa := alloc_cells
  have qf := alloc_frozens
  clear h0 h1 h2 h3 hin hb hb1 hget hn g1 g2 g3 l1 l2 l3 ht v0 v1 v2 v3 hT1 hT2 hT3 ok ok1 ok2 ok3 hS hQ hX hS1 hQ1 hX1 hS2 hQ2 hX2 hS3 hQ3 hX3 sb sb2 bd p1 s1 hsp hsp1 hsp2 hsp3 x2
  have d1 : (len ≤ n → decide (n < len) = false) := fun h => by simp; omega
  have D1 := Lib.hid d1
  clear d1
  rcases hcs with ⟨h1, h2, h3⟩ | ⟨h1, h2, h3⟩
  all_goals
    try have dd1 := D1.out h1
    go_enter Try.func3, Try.ntmps3
    go_wp2_with fail
    refine (begun_ok _).mono ?_
    rintro e w1 ⟨rfl, hb1⟩
    have z1 := hb1.size
    have c1 := Below.cells hb1
    have f1 := Below.frozens hb1
    try simp only [World.size_alloc, World.size_setCell, World.size_drew] at z1 c1 f1
    go_wp2_with fail
    refine (within_any p 1000 BY _ (by omega) (by omega) HBY.out).mono ?_
    rintro e w' ⟨rfl, rfl⟩
    go_wp2_with fail
    refine (within_any q 100 TM _ (by omega) (by omega) HTM.out).mono ?_
    rintro e w' ⟨rfl, rfl⟩
    go_wp2_with fail
    have HC1 := Lib.hid (cells_below HB1.out (w' := w1) (by repeat (first | (with_reducible exact Below.refl _ _) | ((with_reducible refine Below.alloc ?_ ?_ _); rotate_left; (next => ((try dsimp only); (try simp only [World.size_alloc, World.size_setCell, World.size_drew]); omega))) | ((with_reducible refine Below.setCell ?_ ?_ _); rotate_left; (next => ((try dsimp only); (try simp only [World.size_alloc, World.size_setCell, World.size_drew]); omega))) | (with_reducible refine Below.drew ?_) | ((with_reducible refine Below.trans ?_ (Below.mono hb1 ?_)); rotate_left; (next => ((try dsimp only); (try simp only [World.size_alloc, World.size_setCell, World.size_drew]); omega))))))
    clear c1 f1 qa qf
    go_loopw [9, 37] (fun v i wr => ∃ k : Nat, k ≤ n ∧ i = .int .i64 k ∧ wr.ownsRow w1.heap.size 3 1 v k ((List.take k xs).map (Value.int .i64)) ∧ Below w1.heap.size w1 wr) (fun _ i _ => n - (intOf i).toNat)
    case atStart => exact ⟨0, Nat.zero_le _, rfl, World.ownsRow_nil _ _ _ _, Below.refl _ _⟩
    case round =>
      obtain ⟨k, hk, rfl, hown, bel⟩ := hrel
      have hsz := bel.size
      by_cases hlt : k < n
      · obtain ⟨bkx, offx, hAx, ltx, hrx⟩ := HC1.out k hlt
        subst hAx
        replace hrx := (bel.cell (p := ⟨bkx, offx + k, none⟩) ltx).trans hrx
        obtain ⟨x, hvx, hxx⟩ := name_num hrx
        have HX := Lib.hid hvx
        clear hvx hrx
        obtain ⟨y, hyv⟩ : ∃ y, y = within x 100000 := ⟨_, rfl⟩
        have HY := Lib.hid hyv
        have htk : List.take (k + 1) xs = List.take k xs ++ [y] := by rw [take_snoc _ (by have := HN.out; omega), HG.out k (by omega), ← HX.out, ← HY.out]
        have HT := Lib.hid htk
        clear hyv htk
        go_wp2_with fail
        refine (within_any x 100000 y _ (by omega) (by omega) HY.out.symm).mono ?_
        rintro e w' ⟨rfl, rfl⟩
        go_wp2_with (at_builtin; (refine wpList_append_own _ rfl _ _ 22 rfl (w1.heap.size) 3 i0 (.int .i64 0) 1 8 Try.underlying22 hi hz0 hz1 hz2 rfl (by decide) _ _ _ rfl (World.ownsRow.alloc hown _) ⟨wr.heap.size, 0, none⟩ 1 1 [.int .i64 (y)] rfl rfl (app1_cells _ _ _) (app1_one _ _) (by unfold maxLen; omega) (by omega) (by simp; omega) ?_))
        intro vq wq ownq grq _
        have own2 : wq.ownsRow w1.heap.size 3 1 vq (k + 1) ((List.take (k + 1) xs).map (Value.int .i64)) := by rw [HT.out]; simpa [List.map_append, List.map_take] using ownq
        have bel2 := (bel.alloc hsz _).grown grq (by simp; omega) (fun g hg => (hown.lt g hg).1)
        have HO := Lib.hid own2
        clear ownq grq hown own2 hxx bel
        go_wp2_with fail
        go_roundw
        case rel => first | exact ⟨k + 1, by omega, by go_num, HO.out, bel2⟩ | ((repeat apply Exists.intro); exact ⟨⟨k + 1, by omega, by go_num, HO.out, bel2⟩, rfl⟩)
        case measure => simp [intOf]; omega
      · obtain rfl : n = k := by omega
        rw [List.take_of_length_le (by have := HN.out; omega)] at hown
        obtain ⟨wP, rfl⟩ : ∃ z : World, z = wr := ⟨_, rfl⟩
        obtain ⟨AP, cP, rfl, pP, qP, nP⟩ := own_form hown
        have RP := Lib.hid (Row.of_own hown)
        have oP := Lib.hid hown
        have hbP := bel
        have zP := hsz
        clear hown bel hsz hlt hk
        go_wp2_with fail
        go_loopw [10, 11, 12, 49] (fun v u z i wr => ∃ (k : Nat), k ≤ n ∧ i = .int .i64 k ∧ wr.ownsRow wP.heap.size 3 1 v k ((List.take k T1).map (Value.int .i64)) ∧ wr.ownsRow wP.heap.size 3 1 u k ((List.take k T2).map (Value.int .i64)) ∧
            wr.ownsRow wP.heap.size 3 1 z k ((List.take k T3).map (Value.int .i64)) ∧ Apart v u ∧ Apart v z ∧ Apart u z ∧ Below wP.heap.size wP wr) (fun _ _ _ i _ => n - (intOf i).toNat)
        case atStart => exact ⟨0, Nat.zero_le _, rfl, World.ownsRow_nil _ _ _ _, World.ownsRow_nil _ _ _ _, World.ownsRow_nil _ _ _ _, apart_nil _, apart_nil _, apart_nil _, Below.refl _ _⟩
        case round =>
          obtain ⟨k, hk, rfl, o1, o2, o3, a12, a13, a23, bel⟩ := hrel
          have hsz := bel.size
          by_cases hlt : k < n
          · obtain ⟨b, off, rfl, ltA, hcA⟩ := RP.out.at (by omega)
            have ht := HT.out (by omega)
            obtain ⟨j, hj⟩ : ∃ j, (k + t) % n = j := ⟨_, rfl⟩
            have jn : j < n := by rw [← hj]; exact Nat.mod_lt _ (by omega)
            obtain ⟨TI, hTI⟩ : ∃ z : Int, (t : Int) = z := ⟨_, rfl⟩
            obtain ⟨JI, hJI⟩ : ∃ z : Int, (j : Int) = z := ⟨_, rfl⟩
            have tib : 0 ≤ TI ∧ TI < n := by omega
            have wt : within r n = TI := by rw [ht.1, hTI]
            have rm : ((k : Int) + TI).tmod (n : Int) = JI := by
              rw [Int.tmod_eq_emod_of_nonneg (by omega), ← hTI, ← hJI, ← hj, Int.natCast_emod, Int.natCast_add]
            have ji0 : 0 ≤ JI := by omega
            have ji1 : JI < (n : Int) := by omega
            have jin : JI.toNat = j := by omega
            have hcw := hcA j jn
            have hcy := (bel.cell (p := ⟨b, off + k, none⟩) ltA).trans (hcA k hlt)
            obtain ⟨y, hyv, hyc⟩ := name_num hcy
            obtain ⟨x, hxv, hxw⟩ := name_num hcw
            have yb := HXB.out.get (k := k) (by have := HN.out; omega)
            have xb := HXB.out.get (k := j) (by have := HN.out; omega)
            rw [← hyv] at yb
            rw [← hxv] at xb
            have tk1 : List.take (k + 1) T1 = List.take k T1 ++ [y + BY] := by rw [take_snoc _ (by have := HL1.out; omega), HG1.out k hlt, ← hyv]
            have tk2 : List.take (k + 1) T2 = List.take k T2 ++ [y * TM] := by rw [take_snoc _ (by have := HL2.out; omega), HG2.out k hlt, ← hyv]
            have tk3 : List.take (k + 1) T3 = List.take k T3 ++ [x] := by rw [take_snoc _ (by have := HL3.out; omega), HG3.out k hlt, hj, ← hxv]
            have ytm := mul_bd yb (b := TM) (B := 99) (by omega)
            have K1 := Lib.hid tk1
            have K2 := Lib.hid tk2
            have K3 := Lib.hid tk3
            have WT := Lib.hid wt
            have HXW := Lib.hid hxw
            clear tk1 tk2 tk3 hyv hxv hcw hcy hcA hj hTI hJI ht wt hxw
            go_wp2_with (at_builtin; (refine wpList_append_own_at _ rfl _ _ 22 rfl (wP.heap.size) 3 i0 (.int .i64 0) 1 8 Try.underlying22 hi hz0 hz1 hz2 rfl (by decide) _ _ _ rfl (World.ownsRow.alloc o1 _) ⟨wr.heap.size, 0, none⟩ 1 1 [.int .i64 ((y + BY))] rfl rfl (app1_cells _ _ _) (app1_one _ _) (by unfold maxLen; omega) (by omega) (by simp; omega) ?_))
            intro vq wq ownq grq _ atq
            have n1 : wq.ownsRow wP.heap.size 3 1 vq (k + 1) ((List.take (k + 1) T1).map (Value.int .i64)) := by rw [K1.out]; simpa [List.map_append, List.map_take] using ownq
            obtain ⟨m2, b12⟩ := own_beside o2 a12 grq atq
            obtain ⟨m3, b13⟩ := own_beside o3 a13 grq atq
            have belq := (bel.alloc hsz _).grown grq (by simp; omega) (fun g hg => (o1.lt g hg).1)
            have hsq := belq.size
            clear ownq grq atq o1 o2 o3 a12 a13 bel hsz
            go_wp2_with (at_builtin; (refine wpList_append_own_at _ rfl _ _ 22 rfl (wP.heap.size) 3 i0 (.int .i64 0) 1 8 Try.underlying22 hi hz0 hz1 hz2 rfl (by decide) _ _ _ rfl (World.ownsRow.alloc m2 _) ⟨wq.heap.size, 0, none⟩ 1 1 [.int .i64 ((y * TM))] rfl rfl (app1_cells _ _ _) (app1_one _ _) (by unfold maxLen; omega) (by omega) (by simp; omega) ?_))
            intro vr wr ownr grr _ atr
            have n2 : wr.ownsRow wP.heap.size 3 1 vr (k + 1) ((List.take (k + 1) T2).map (Value.int .i64)) := by rw [K2.out]; simpa [List.map_append, List.map_take] using ownr
            obtain ⟨m1, c21⟩ := own_beside n1 b12.symm grr atr
            obtain ⟨l3, c23⟩ := own_beside m3 a23 grr atr
            have belr := (belq.alloc hsq _).grown grr (by simp; omega) (fun g hg => (m2.lt g hg).1)
            have hsr := belr.size
            clear ownr grr atr m2 m3 n1 b12 a23 belq hsq
            have hxr := (belr.cell (p := ⟨b, off + j, none⟩) ltA).trans HXW.out
            go_wp2_with fail
            refine (within_any r n TI _ (by omega) (by omega) WT.out).mono ?_
            rintro e w' ⟨rfl, rfl⟩
            go_wp2_with (at_builtin; (refine wpList_append_own_at _ rfl _ _ 22 rfl (wP.heap.size) 3 i0 (.int .i64 0) 1 8 Try.underlying22 hi hz0 hz1 hz2 rfl (by decide) _ _ _ rfl (World.ownsRow.alloc l3 _) ⟨wr.heap.size, 0, none⟩ 1 1 [.int .i64 (x)] rfl rfl (app1_cells _ _ _) (app1_one _ _) (by unfold maxLen; omega) (by omega) (by simp; omega) ?_))
            intro vs ws owns grs _ ats
            have n3 : ws.ownsRow wP.heap.size 3 1 vs (k + 1) ((List.take (k + 1) T3).map (Value.int .i64)) := by rw [K3.out]; simpa [List.map_append, List.map_take] using owns
            obtain ⟨j1, d31⟩ := own_beside m1 b13.symm grs ats
            obtain ⟨j2, d32⟩ := own_beside n2 c23.symm grs ats
            have bels := (belr.alloc hsr _).grown grs (by simp; omega) (fun g hg => (l3.lt g hg).1)
            have J1 := Lib.hid j1
            have J2 := Lib.hid j2
            have J3 := Lib.hid n3
            have D12 := Lib.hid c21.symm
            have D13 := Lib.hid d31.symm
            have D23 := Lib.hid d32.symm
            clear owns grs ats l3 m1 n2 n3 j1 j2 b13 c21 c23 d31 d32 belr hsr
            go_wp2_with fail
            go_roundw
            case rel => exact ⟨k + 1, by omega, by go_num, J1.out, J2.out, J3.out, D12.out, D13.out, D23.out, bels⟩
            case measure => simp [intOf]; omega
          · obtain rfl : n = k := by omega
            rw [List.take_of_length_le (by have := HL1.out; omega)] at o1
            rw [List.take_of_length_le (by have := HL2.out; omega)] at o2
            rw [List.take_of_length_le (by have := HL3.out; omega)] at o3
            obtain ⟨A2, e2, rfl, q1, q2, q3⟩ := own_form o1
            obtain ⟨A3, e3, rfl, q4, q5, q6⟩ := own_form o2
            obtain ⟨A4, e4, rfl, q7, q8, q9⟩ := own_form o3
            have R2 := Lib.hid (Row.of_own o1)
            have R3 := Lib.hid (Row.of_own o2)
            have R4 := Lib.hid (Row.of_own o3)
            have R1 := Lib.hid (RP.out.below (w' := wr) bel)
            obtain ⟨wK, rfl⟩ : ∃ z : World, z = wr := ⟨_, rfl⟩
            have hbK := bel
            have zK := hsz
            have qa := alloc_cells
            have qf := alloc_frozens
            clear o1 o2 o3 a12 a13 a23 bel q3 q6 q9
            go_wp2_with fail
            refine (H0.out AP cP _ R1.out).mono ?_
            rintro e w2 ⟨rfl, hb2⟩
            have z2 := hb2.size
            have c2 := Below.cells hb2
            have f2 := Below.frozens hb2
            try simp only [World.size_alloc, World.size_setCell, World.size_drew] at z2 c2 f2
            go_wp2_with fail
            refine (P0.out _).mono ?_
            rintro e w3 ⟨rfl, hb3⟩
            have z3 := hb3.size
            have c3 := Below.cells hb3
            have f3 := Below.frozens hb3
            try simp only [World.size_alloc, World.size_setCell, World.size_drew] at z3 c3 f3
            go_wp2_with fail
            refine (H1.out A2 e2 _ (R2.out.below (by repeat (first | (with_reducible exact Below.refl _ _) | ((with_reducible refine Below.alloc ?_ ?_ _); rotate_left; (next => ((try dsimp only); (try simp only [World.size_alloc, World.size_setCell, World.size_drew]); omega))) | ((with_reducible refine Below.setCell ?_ ?_ _); rotate_left; (next => ((try dsimp only); (try simp only [World.size_alloc, World.size_setCell, World.size_drew]); omega))) | (with_reducible refine Below.drew ?_) | ((with_reducible refine Below.trans ?_ (Below.mono hb3 ?_)); rotate_left; (next => ((try dsimp only); (try simp only [World.size_alloc, World.size_setCell, World.size_drew]); omega))) | ((with_reducible refine Below.trans ?_ (Below.mono hb2 ?_)); rotate_left; (next => ((try dsimp only); (try simp only [World.size_alloc, World.size_setCell, World.size_drew]); omega))))))).mono ?_
            rintro e w4 ⟨rfl, hb4⟩
            have z4 := hb4.size
            have c4 := Below.cells hb4
            have f4 := Below.frozens hb4
            try simp only [World.size_alloc, World.size_setCell, World.size_drew] at z4 c4 f4
            go_wp2_with fail
            refine (P1.out _).mono ?_
            rintro e w5 ⟨rfl, hb5⟩
            have z5 := hb5.size
            have c5 := Below.cells hb5
            have f5 := Below.frozens hb5
            try simp only [World.size_alloc, World.size_setCell, World.size_drew] at z5 c5 f5
            go_wp2_with fail
            refine (H2.out A3 e3 _ (R3.out.below (by repeat (first | (with_reducible exact Below.refl _ _) | ((with_reducible refine Below.alloc ?_ ?_ _); rotate_left; (next => ((try dsimp only); (try simp only [World.size_alloc, World.size_setCell, World.size_drew]); omega))) | ((with_reducible refine Below.setCell ?_ ?_ _); rotate_left; (next => ((try dsimp only); (try simp only [World.size_alloc, World.size_setCell, World.size_drew]); omega))) | (with_reducible refine Below.drew ?_) | ((with_reducible refine Below.trans ?_ (Below.mono hb5 ?_)); rotate_left; (next => ((try dsimp only); (try simp only [World.size_alloc, World.size_setCell, World.size_drew]); omega))) | ((with_reducible refine Below.trans ?_ (Below.mono hb4 ?_)); rotate_left; (next => ((try dsimp only); (try simp only [World.size_alloc, World.size_setCell, World.size_drew]); omega))) | ((with_reducible refine Below.trans ?_ (Below.mono hb3 ?_)); rotate_left; (next => ((try dsimp only); (try simp only [World.size_alloc, World.size_setCell, World.size_drew]); omega))) | ((with_reducible refine Below.trans ?_ (Below.mono hb2 ?_)); rotate_left; (next => ((try dsimp only); (try simp only [World.size_alloc, World.size_setCell, World.size_drew]); omega))))))).mono ?_
            rintro e w6 ⟨rfl, hb6⟩
            have z6 := hb6.size
            have c6 := Below.cells hb6
            have f6 := Below.frozens hb6
            try simp only [World.size_alloc, World.size_setCell, World.size_drew] at z6 c6 f6
            go_wp2_with fail
            refine (P2.out _).mono ?_
            rintro e w7 ⟨rfl, hb7⟩
            have z7 := hb7.size
            have c7 := Below.cells hb7
            have f7 := Below.frozens hb7
            try simp only [World.size_alloc, World.size_setCell, World.size_drew] at z7 c7 f7
            go_wp2_with fail
            refine (H3.out A4 e4 _ (R4.out.below (by repeat (first | (with_reducible exact Below.refl _ _) | ((with_reducible refine Below.alloc ?_ ?_ _); rotate_left; (next => ((try dsimp only); (try simp only [World.size_alloc, World.size_setCell, World.size_drew]); omega))) | ((with_reducible refine Below.setCell ?_ ?_ _); rotate_left; (next => ((try dsimp only); (try simp only [World.size_alloc, World.size_setCell, World.size_drew]); omega))) | (with_reducible refine Below.drew ?_) | ((with_reducible refine Below.trans ?_ (Below.mono hb7 ?_)); rotate_left; (next => ((try dsimp only); (try simp only [World.size_alloc, World.size_setCell, World.size_drew]); omega))) | ((with_reducible refine Below.trans ?_ (Below.mono hb6 ?_)); rotate_left; (next => ((try dsimp only); (try simp only [World.size_alloc, World.size_setCell, World.size_drew]); omega))) | ((with_reducible refine Below.trans ?_ (Below.mono hb5 ?_)); rotate_left; (next => ((try dsimp only); (try simp only [World.size_alloc, World.size_setCell, World.size_drew]); omega))) | ((with_reducible refine Below.trans ?_ (Below.mono hb4 ?_)); rotate_left; (next => ((try dsimp only); (try simp only [World.size_alloc, World.size_setCell, World.size_drew]); omega))) | ((with_reducible refine Below.trans ?_ (Below.mono hb3 ?_)); rotate_left; (next => ((try dsimp only); (try simp only [World.size_alloc, World.size_setCell, World.size_drew]); omega))) | ((with_reducible refine Below.trans ?_ (Below.mono hb2 ?_)); rotate_left; (next => ((try dsimp only); (try simp only [World.size_alloc, World.size_setCell, World.size_drew]); omega))))))).mono ?_
            rintro e w8 ⟨rfl, hb8⟩
            have z8 := hb8.size
            have c8 := Below.cells hb8
            have f8 := Below.frozens hb8
            try simp only [World.size_alloc, World.size_setCell, World.size_drew] at z8 c8 f8
            go_wp2_with fail
            refine (P3.out _).mono ?_
            rintro e w9 ⟨rfl, hb9⟩
            have z9 := hb9.size
            have c9 := Below.cells hb9
            have f9 := Below.frozens hb9
            try simp only [World.size_alloc, World.size_setCell, World.size_drew] at z9 c9 f9
            go_wp2_with fail
            go_ret
            exact ⟨rfl, (by repeat (first | (with_reducible exact Below.refl _ _) | ((with_reducible refine Below.alloc ?_ ?_ _); rotate_left; (next => ((try dsimp only); (try simp only [World.size_alloc, World.size_setCell, World.size_drew]); omega))) | ((with_reducible refine Below.setCell ?_ ?_ _); rotate_left; (next => ((try dsimp only); (try simp only [World.size_alloc, World.size_setCell, World.size_drew]); omega))) | (with_reducible refine Below.drew ?_) | ((with_reducible refine Below.trans ?_ (Below.mono hb9 ?_)); rotate_left; (next => ((try dsimp only); (try simp only [World.size_alloc, World.size_setCell, World.size_drew]); omega))) | ((with_reducible refine Below.trans ?_ (Below.mono hb8 ?_)); rotate_left; (next => ((try dsimp only); (try simp only [World.size_alloc, World.size_setCell, World.size_drew]); omega))) | ((with_reducible refine Below.trans ?_ (Below.mono hb7 ?_)); rotate_left; (next => ((try dsimp only); (try simp only [World.size_alloc, World.size_setCell, World.size_drew]); omega))) | ((with_reducible refine Below.trans ?_ (Below.mono hb6 ?_)); rotate_left; (next => ((try dsimp only); (try simp only [World.size_alloc, World.size_setCell, World.size_drew]); omega))) | ((with_reducible refine Below.trans ?_ (Below.mono hb5 ?_)); rotate_left; (next => ((try dsimp only); (try simp only [World.size_alloc, World.size_setCell, World.size_drew]); omega))) | ((with_reducible refine Below.trans ?_ (Below.mono hb4 ?_)); rotate_left; (next => ((try dsimp only); (try simp only [World.size_alloc, World.size_setCell, World.size_drew]); omega))) | ((with_reducible refine Below.trans ?_ (Below.mono hb3 ?_)); rotate_left; (next => ((try dsimp only); (try simp only [World.size_alloc, World.size_setCell, World.size_drew]); omega))) | ((with_reducible refine Below.trans ?_ (Below.mono hb2 ?_)); rotate_left; (next => ((try dsimp only); (try simp only [World.size_alloc, World.size_setCell, World.size_drew]); omega))) | ((with_reducible refine Below.trans ?_ (Below.mono hbK ?_)); rotate_left; (next => ((try dsimp only); (try simp only [World.size_alloc, World.size_setCell, World.size_drew]); omega))) | ((with_reducible refine Below.trans ?_ (Below.mono hbP ?_)); rotate_left; (next => ((try dsimp only); (try simp only [World.size_alloc, World.size_setCell, World.size_drew]); omega))) | ((with_reducible refine Below.trans ?_ (Below.mono hb1 ?_)); rotate_left; (next => ((try dsimp only); (try simp only [World.size_alloc, World.size_setCell, World.size_drew]); omega)))))⟩
end Go.Proofs.Ytgiipelonojgaaa

import Derived.Test.YtlnagfmaiabhaaaNd
import Derived.Test.YtlnagfmaiabhaaaBl
import Derived.Test.YtlnagfmaiabhaaaCh
import Derived.Test.YtlnagfmaiabhaaaLchenexact
import Derived.Test.YtlnagfmaiabhaaaDt
import Derived.Test.YtlnagfmaiabhaaaSu
import Derived.Test.YtlnagfmaiabhaaaW1
set_option linter.unusedSimpArgs false
set_option linter.unusedVariables false
namespace Go.Proofs.Ytlnagfmaiabhaaa
open Go Go.RowKit
set_option maxHeartbeats 4000000 in
theorem te_begun (w : World) :
    Calls Try.prog 20 #[] w fun e w' => e = .returned (.bool true) ∧ Below w.heap.size w w' := by
  have HA := Lib.hid (fun w => add_ok 2 3 5 (Wd.lit (l := 2) (by unfold U64; omega)) (Wd.lit (l := 3) (by unfold U64; omega)) rfl (by unfold U128; omega) w)
  have e1 : hi 5 = 0 := by decide
  have e2 : lo 5 = 5 := by decide
  have qa := alloc_cells
  have qf := alloc_frozens
  go_enter Try.func20, Try.ntmps20
  go_wp2_with fail
  refine (HA.out _).mono ?_
  rintro e w1 ⟨rfl, hb1⟩
  have z1 := hb1.size
  have c1 := Below.cells hb1
  have f1 := Below.frozens hb1
  try simp only [World.size_alloc, World.size_setCell, World.size_drew] at z1 c1 f1
  go_wp2_with fail
  go_ret
  exact ⟨rfl, (by repeat (first | (with_reducible exact Below.refl _ _) | ((with_reducible refine Below.alloc ?_ ?_ _); rotate_left; (next => ((try dsimp only); (try simp only [World.size_alloc, World.size_setCell, World.size_drew]); omega))) | ((with_reducible refine Below.setCell ?_ ?_ _); rotate_left; (next => ((try dsimp only); (try simp only [World.size_alloc, World.size_setCell, World.size_drew]); omega))) | (with_reducible refine Below.drew ?_) | ((with_reducible refine Below.trans ?_ (Below.mono hb1 ?_)); rotate_left; (next => ((try dsimp only); (try simp only [World.size_alloc, World.size_setCell, World.size_drew]); omega)))))⟩
set_option maxHeartbeats 4000000 in
theorem config_ok (id : ByteArray) (n : Int) (w : World) :
    Calls Try.prog 31 #[.string id, .int .i64 n] w fun e w' => e = .returned (.agg #[.string id, .int .i64 0, .int .i64 n, .int .i64 5, .int .i64 2]) ∧ Below w.heap.size w w' := by
  have qa := alloc_cells
  have qf := alloc_frozens
  go_enter Try.func31, Try.ntmps31
  go_wp2_with fail
  refine bodyPost_ret (v := .agg #[.string id, .int .i64 0, .int .i64 n, .int .i64 5, .int .i64 2]) (by simp [results, Try.f31, go_sem, ↓IntWalk.iteOmega, *]) rfl ?_
  exact ⟨rfl, (by repeat (first | (with_reducible exact Below.refl _ _) | ((with_reducible refine Below.alloc ?_ ?_ _); rotate_left; (next => ((try dsimp only); (try simp only [World.size_alloc, World.size_setCell, World.size_drew]); omega))) | ((with_reducible refine Below.setCell ?_ ?_ _); rotate_left; (next => ((try dsimp only); (try simp only [World.size_alloc, World.size_setCell, World.size_drew]); omega))) | (with_reducible refine Below.drew ?_) | (refine Below.trans ?_ (by assumption))))⟩
theorem own_kept' {w w' : World} {B e s n b : Nat} {v : Value} {xs : List Value} (h : w.ownsRow B e s v n xs) (hb : b < B) (g : w.grownBy w' (some b)) : w'.ownsRow B e s v n xs :=
  h.kept g (.inr (fun e => by have := (h.lt _ e).1; omega))

theorem sum_zero : ∀ (L : List Int), (∀ x ∈ L, x = 0) → sumI L = 0
  | [], _ => rfl
  | x :: L, h => by
    have a := h x (by simp)
    have b := sum_zero L (fun y hy => h y (by simp [hy]))
    simp only [sumI, b, a]; rfl
theorem Far2.symm' {v u : Value} (h : Far2 v u) : Far2 u v := fun g h1 h2 => h g h2 h1

set_option maxRecDepth 100000 in
set_option maxHeartbeats 16000000 in
theorem topExpect_walk (p : Int) (a : Option Addr) (len cap : Nat) (l : List Int) (w : World) (_ : (Lit.int .i64 p).wf = true) (hin : InRow w a len cap l) :
    Calls Try.prog 5 #[.int .i64 p, .slice a len cap] w fun e w' =>
      e = .returned (.bool true) ∧ Below w.heap.size w w' := by
  obtain ⟨hr, hcp, hmx, hnil⟩ := hin
  unfold maxLen at hmx
  have hll := hr.len
  obtain ⟨n, hn⟩ : ∃ n : Nat, min len 200 = n := ⟨_, rfl⟩
  have hmin : min (len : Int) 200 = (n : Int) := by omega
  have hnl : n ≤ len := by omega
  have nl' : (n : Int) ≤ len := by omega
  have nc' : (n : Int) ≤ cap := by omega
  have hn200 : n ≤ 200 := by omega
  have b1 := within_bd p (n := 50) (by omega)
  obtain ⟨EP, e_EP⟩ : ∃ z_, within p 50 = z_ := ⟨_, rfl⟩
  rw [e_EP] at b1
  have HEP := Lib.hid e_EP
  clear e_EP
  obtain ⟨E, hE⟩ : ∃ e, 1 + EP = e := ⟨_, rfl⟩
  have Eb : 1 ≤ E ∧ E ≤ 50 := by omega
  have v0 : IntKind.i64.wrap (1 + EP) = E := by rw [hE]; exact IntWalk.i64_in _ (by omega)
  have hid : IdOK (byts ⟨#[97]⟩) := by unfold IdOK byts; decide
  have HID := Lib.hid hid
  have HNew := Lib.hid (fun w' => new_ok ⟨#[97]⟩ 0 E 5 2 w' hid (by omega) (by omega) (by omega) (by omega))
  have HB := Lib.hid (hr.each)
  have HT0 := Lib.hid (fun w => te_begun w)
  have qa := alloc_cells
  have qf := alloc_frozens
  obtain ⟨i0, hi, hz0, hz1, hz2⟩ := info_parts info_int
  clear hr hll hn hnil hE hid
  go_enter Try.func5, Try.ntmps5
  go_wp2_with fail
  refine (HT0.out _).mono ?_
  rintro e w1 ⟨rfl, hb1⟩
  have z1 := hb1.size
  have c1 := Below.cells hb1
  have f1 := Below.frozens hb1
  try simp only [World.size_alloc, World.size_setCell, World.size_drew] at z1 c1 f1
  go_wp2_with fail
  refine (within_any p 50 EP _ (by omega) (by omega) HEP.out).mono ?_
  rintro e w' ⟨rfl, rfl⟩
  go_wp2_with fail
  refine (config_ok _ _ _).mono ?_
  rintro e w2 ⟨rfl, hb2⟩
  have z2 := hb2.size
  have c2 := Below.cells hb2
  have f2 := Below.frozens hb2
  try simp only [World.size_alloc, World.size_setCell, World.size_drew] at z2 c2 f2
  go_wp2_with fail
  refine (HNew.out _).mono ?_
  rintro e w3 ⟨b, rfl, bb, nd3, hb3⟩
  have z3 := hb3.size
  have B3 := Lib.hid (show Below w.heap.size w w3 from (by repeat (first | (with_reducible exact Below.refl _ _) | ((with_reducible refine Below.alloc ?_ ?_ _); rotate_left; (next => ((try dsimp only); (try simp only [World.size_alloc, World.size_setCell, World.size_drew]); omega))) | ((with_reducible refine Below.setCell ?_ ?_ _); rotate_left; (next => ((try dsimp only); (try simp only [World.size_alloc, World.size_setCell, World.size_drew]); omega))) | (with_reducible refine Below.drew ?_) | ((with_reducible refine Below.trans ?_ (Below.mono hb3 ?_)); rotate_left; (next => ((try dsimp only); (try simp only [World.size_alloc, World.size_setCell, World.size_drew]); omega))) | ((with_reducible refine Below.trans ?_ (Below.mono hb2 ?_)); rotate_left; (next => ((try dsimp only); (try simp only [World.size_alloc, World.size_setCell, World.size_drew]); omega))) | ((with_reducible refine Below.trans ?_ (Below.mono hb1 ?_)); rotate_left; (next => ((try dsimp only); (try simp only [World.size_alloc, World.size_setCell, World.size_drew]); omega))))))
  have ND3 := Lib.hid nd3
  have bw : w.heap.size ≤ b := by omega
  have bs := nd3.lt
  have zw : w.heap.size ≤ w3.heap.size := by omega
  clear hb1 hb2 hb3 c1 f1 c2 f2 nd3 z1 z2 z3 bb qa qf
  go_wp2_with fail
  go_loopw [7, 8, 42] (fun v u i wr => ∃ (k M : Nat) (N : Int) (A7 : Option Addr) (c7 : Nat) (A8 : Option Addr) (c8 : Nat), k ≤ n ∧ i = .int .i64 k ∧ v = .slice A7 M c7 ∧ u = .slice A8 M c8 ∧ N / E = M ∧ 0 ≤ N ∧ N ≤ 9 * k ∧ (M : Int) ≤ N ∧
    wr.ownsRow w3.heap.size 3 1 (.slice A7 M c7) M ((tab M fun j => (j : Int) + 1).map (Value.int .i64)) ∧ wr.ownsRow w3.heap.size 3 1 (.slice A8 M c8) M ((tab M fun j => E * ((j : Int) + 1)).map (Value.int .i64)) ∧ Far2 (.slice A7 M c7) (.slice A8 M c8) ∧
    NodeAt wr b ⟨#[97]⟩ 0 E 5 2 N ((M : Nat) : Int) 0 (.slice none 0 0) (.slice none 0 0) ∧ w3.grownBy wr (some b)) (fun _ _ i _ => n - (intOf i).toNat)
  case atStart => exact ⟨0, 0, 0, none, 0, none, 0, Nat.zero_le _, rfl, rfl, rfl, by simp, by omega, by omega, by omega, World.ownsRow_nil _ _ _ _, World.ownsRow_nil _ _ _ _, far2_nil _, ND3.out, grown_refl _ _⟩
  case round =>
    obtain ⟨k, M, N, A7, c7, A8, c8, hk, rfl, rfl, rfl, hNE, hN0, hN9, hMN, own7, own8, hfar, hnd, hgr⟩ := hrel
    have hsz := hgr.size
    have bel : Below w.heap.size w wr := B3.out.grown hgr zw (fun k e => by cases e; exact bw)
    by_cases hlt : k < n
    · have hkl : k < len := by omega
      obtain ⟨bkx, offx, hAx, ltx, hrx⟩ := HB.out k hkl
      subst hAx
      replace hrx := (bel.cell (p := ⟨bkx, offx + k, none⟩) ltx).trans hrx
      obtain ⟨x, hvx, hxx⟩ := name_num hrx
      have HX := Lib.hid hvx
      clear hvx hrx
      obtain ⟨y, hyv⟩ : ∃ y, y = within x 9 := ⟨_, rfl⟩
      have HY := Lib.hid hyv
      have yb := within_bd x (n := 9) (by omega)
      rw [← hyv] at yb
      obtain ⟨r, hrv⟩ : ∃ r, y % E = r := ⟨_, rfl⟩
      have r0 := Int.emod_nonneg y (show E ≠ 0 by omega)
      have r1 := Int.emod_lt_of_pos y (show 0 < E by omega)
      have r2 : y % E ≤ y := by
        have := Int.ediv_nonneg yb.1 (show 0 ≤ E by omega)
        have h1 := Int.emod_add_mul_ediv y E
        have h2 := Int.mul_nonneg (show 0 ≤ E by omega) this
        omega
      rw [hrv] at r0 r1 r2
      obtain ⟨g, hg⟩ : ∃ g, 1 + r = g := ⟨_, rfl⟩
      have v1 : IntKind.i64.wrap (y.tmod E) = r := by rw [Int.tmod_eq_emod_of_nonneg yb.1, hrv]; exact IntWalk.i64_in _ (by omega)
      have v1' : y.tmod E = r := by rw [Int.tmod_eq_emod_of_nonneg yb.1, hrv]
      have v2 : IntKind.i64.wrap (1 + r) = g := by rw [hg]; exact IntWalk.i64_in _ (by omega)
      have v3 : IntKind.i64.wrap r = r := IntWalk.i64_in _ (by omega)
      have ne : (E == 0) = false := by simp; omega
      have ne' : ¬ E = 0 := by omega
      obtain ⟨m, hm⟩ : ∃ m : Nat, (N + g) / E = M + m := by
        have h1 := Int.ediv_le_ediv (show 0 < E by omega) (show N ≤ N + g by omega)
        rw [hNE] at h1
        exact ⟨((N + g) / E - M).toNat, by omega⟩
      have m1 : m ≤ 1 := by
        have h1 := Int.ediv_le_ediv (show 0 < E by omega) (show N + g ≤ N + 1 * E by omega)
        rw [Int.add_mul_ediv_right _ _ (by omega), hNE, hm] at h1
        omega
      have gE : g / E < 64 := Int.ediv_lt_of_lt_mul (by omega) (by omega)
      have HTk := Lib.hid (tick_none (inc := 0) (m := m) (g := g) (D := M) wr hnd HID.out (by omega) (by omega) hN0 (by omega) (by omega) gE hNE hm (by omega))
      have gb : 1 ≤ g ∧ g ≤ 9 := by omega
      have O7 := Lib.hid own7
      have O8 := Lib.hid own8
      have FAR := Lib.hid hfar
      have GR := Lib.hid hgr
      have BEL := Lib.hid bel
      have HM := Lib.hid hm
      clear hyv hrv hg hNE own7 own8 hfar hnd hgr hm gE bel
      go_wp2_with fail
      refine (within_any x 9 y _ (by omega) (by omega) HY.out.symm).mono ?_
      rintro e w' ⟨rfl, rfl⟩
      go_wp2_with fail
      refine HTk.out.mono ?_
      rintro e w4 ⟨v4, rfl, own4, nd4, gr4⟩
      have O74 := Lib.hid (own_kept' O7.out bs gr4)
      have O84 := Lib.hid (own_kept' O8.out bs gr4)
      have ND4 := Lib.hid nd4
      have GR4 := Lib.hid (grown_trans GR.out gr4)
      have z4 := gr4.size
      obtain ⟨A4, c4, rfl, p4, q4, n4⟩ := own_form own4
      have O4 := Lib.hid own4
      clear own4 nd4 gr4 hxx
      rcases (show m = 0 ∨ m = 1 by omega) with m0 | m0
      · subst m0
        go_wp2_with fail
        refine wp_loop_rounds 1 ?_
        rw [rounds_succ]
        go_wp2_with fail
        go_roundw
        case rel => exact ⟨k + 1, M, N + g, A7, c7, A8, c8, by omega, by go_num, rfl, rfl, by rw [HM.out]; omega, by omega, by omega, by omega, O74.out, O84.out, FAR.out, ND4.out, GR4.out⟩
        case measure => simp [intOf]; omega
      · subst m0
        obtain ⟨g4, cap4, hA4, _⟩ := O4.out.form (by omega)
        simp only [Value.slice.injEq] at hA4
        obtain ⟨rfl, -, rfl⟩ := hA4
        obtain ⟨tx, htx⟩ : ∃ t, mkB (encL (byts ⟨#[97]⟩) 0 (M + 1 + 0)) = t := ⟨_, rfl⟩
        have k4 : w4.cell? ⟨g4, 0, none⟩ = some (.string tx) := by
          have h := O4.out.cellAt 0 (by omega)
          rw [h, ← htx]; rfl
        have HD := Lib.hid (fun w' => decode_enc ⟨#[97]⟩ 0 (M + 1 + 0) w' ⟨HID.out, by omega, by omega, by omega⟩)
        rw [htx] at HD
        obtain ⟨s1, hs1⟩ : ∃ s, M + 1 + 0 = s := ⟨_, rfl⟩
        rw [hs1] at HD
        clear htx
        go_wp2_with fail
        refine wp_loop_rounds 2 ?_
        rw [rounds_succ]
        go_wp2_with fail
        refine (HD.out _).mono ?_
        rintro e w5 ⟨rfl, hb5⟩
        have z5 := hb5.size
        have N5 := Lib.hid (ND4.out.below hb5 (by omega))
        have O75 := own_below O74.out hb5
        have O85 := own_below O84.out hb5
        obtain ⟨o6, ho6⟩ : ∃ o : Obj, o = .cells #[.string ⟨#[97]⟩, .int .i64 0, .int .i64 (s1 : Int)] 57 := ⟨_, rfl⟩
        have O76 : (w5.alloc (.cells #[.string ⟨#[97]⟩, .int .i64 0, .int .i64 (s1 : Int)] 57)).ownsRow w3.heap.size 3 1 (.slice A7 M c7) M ((tab M fun j => (j : Int) + 1).map (Value.int .i64)) := O75.alloc _
        have O86 := Lib.hid (show (w5.alloc (.cells #[.string ⟨#[97]⟩, .int .i64 0, .int .i64 (s1 : Int)] 57)).ownsRow w3.heap.size 3 1 (.slice A8 M c8) M ((tab M fun j => E * ((j : Int) + 1)).map (Value.int .i64)) from O85.alloc _)
        have H76 := Lib.hid O76
        have GR5 := Lib.hid (grown_trans GR4.out (grown_below hb5))
        have qa := alloc_cells
        have qf := alloc_frozens
        clear ho6 hb5 O75 O85
        go_wp2_with (at_builtin; go_loud (refine wpList_append_own_at _ rfl _ _ 32 rfl (w3.heap.size) 3 i0 (.int .i64 0) 1 8 Try.underlying32 hi hz0 hz1 hz2 rfl (by decide) _ _ _ rfl (World.ownsRow.alloc O76 _) ⟨w5.heap.size + 1, 0, none⟩ 1 1 [.int .i64 (s1 : Int)] rfl rfl (app1_cells' _ _ _ (by simp)) (app1_one _ _) (by unfold maxLen; omega) (by omega) (by simp; omega) ?_))
        intro vq wq ownq grq _ atq
        obtain ⟨p8, f8⟩ := own_beside2 (World.ownsRow.alloc O86.out _) FAR.out grq (fun g' e => atq.elim (fun h => .inl (h ▸ e)) (fun h => .inr (by rw [h] at e; simp only [Option.some.injEq] at e; simp only [World.size_alloc]; omega)))
        have NQ := Lib.hid (N5.out.same ((grq.block b (by simp only [World.size_alloc]; omega) (fun e => by have := (H76.out.lt _ e.symm).1; omega)).trans ((Below.heap_alloc _ _ _ (by simp only [World.size_alloc]; omega)).trans (Below.heap_alloc _ _ _ (by omega)))))
        have GQ := Lib.hid (show w3.grownBy wq (some b) from by
          have A := grown_trans GR5.out (grown_below (((Below.refl _ w5).alloc (Nat.le_refl _) (.cells #[.string ⟨#[97]⟩, .int .i64 0, .int .i64 (s1 : Int)] 57)).alloc (by simp) (.cells #[.int .i64 (s1 : Int)] 3)))
          exact ⟨grq.os.trans A.os, grq.tape.trans A.tape, grq.output.trans A.output, Nat.le_trans A.size grq.size, fun i hi' hr => (grq.block i (Nat.lt_of_lt_of_le hi' A.size) (fun e => by have := (H76.out.lt _ e.symm).1; omega)).trans (A.block i hi' hr)⟩)
        obtain ⟨Aq, cq, rfl, _, _, _⟩ := own_form ownq
        have zq := grq.size
        simp only [World.size_alloc] at zq
        have OQ := Lib.hid ownq
        have P8 := Lib.hid p8
        have F8 := Lib.hid f8
        obtain ⟨T, hT⟩ : ∃ T, (s1 : Int) * E = T := ⟨_, rfl⟩
        have sE : (N + g) / E = (s1 : Int) := by rw [HM.out]; omega
        have Tb : 0 ≤ T ∧ T ≤ 2000 * 50 := by rw [← hT]; exact ⟨Int.mul_nonneg (by omega) (by omega), Int.mul_le_mul (by omega) (by omega) (by omega) (by omega)⟩
        have u1 : (N + g).tdiv E = (s1 : Int) := by rw [Int.tdiv_eq_ediv_of_nonneg (by omega), sE]
        have u2 : IntKind.i64.wrap (s1 : Int) = s1 := IntWalk.i64_in _ (by omega)
        have u3 : IntKind.i64.wrap ((s1 : Int) * E) = T := by rw [hT]; exact IntWalk.i64_in _ (by omega)
        have HT := Lib.hid hT
        have HsE := Lib.hid sE
        clear ownq grq atq f8 O76 hT sE qa qf
        go_wp2_with fail
        refine (now_ok _ NQ.out).mono ?_
        rintro e w' ⟨rfl, rfl⟩
        go_wp2_with (at_builtin; go_loud (refine wpList_append_own_at _ rfl _ _ 32 rfl (w3.heap.size) 3 i0 (.int .i64 0) 1 8 Try.underlying32 hi hz0 hz1 hz2 rfl (by decide) _ _ _ rfl (World.ownsRow.alloc p8 _) ⟨wq.heap.size, 0, none⟩ 1 1 [.int .i64 T] rfl rfl (app1_cells _ _ _) (app1_one _ _) (by unfold maxLen; omega) (by omega) (by simp; omega) ?_))
        intro vz wz ownz grz _ atz
        obtain ⟨p7, f7⟩ := own_beside2 (World.ownsRow.alloc OQ.out _) F8.out.symm' grz (fun g' e => atz.elim (fun h => .inl (h ▸ e)) (fun h => .inr (by rw [h] at e; simp only [Option.some.injEq] at e; simp only [World.size_alloc]; omega)))
        have NZ := Lib.hid (NQ.out.same ((grz.block b (by simp only [World.size_alloc]; omega) (fun e => by have := (P8.out.lt _ e.symm).1; omega)).trans (Below.heap_alloc _ _ _ (by omega))))
        have GZ := Lib.hid (show w3.grownBy wz (some b) from by
          have A := grown_trans GQ.out (grown_below ((Below.refl _ wq).alloc (Nat.le_refl _) (.cells #[.int .i64 T] 3)))
          exact ⟨grz.os.trans A.os, grz.tape.trans A.tape, grz.output.trans A.output, Nat.le_trans A.size grz.size, fun i hi' hr => (grz.block i (Nat.lt_of_lt_of_le hi' A.size) (fun e => by have := (P8.out.lt _ e.symm).1; omega)).trans (A.block i hi' hr)⟩)
        obtain ⟨Az, cz, rfl, _, _, _⟩ := own_form ownz
        have sM : s1 = M + 1 := by omega
        have R7 := Lib.hid (show wz.ownsRow w3.heap.size 3 1 (.slice Aq s1 cq) s1 ((tab s1 fun j => (j : Int) + 1).map (Value.int .i64)) by
          have e : (tab s1 fun j => (j : Int) + 1).map (Value.int .i64) = (tab M fun j => (j : Int) + 1).map (Value.int .i64) ++ [Value.int .i64 (s1 : Int)] := by
            subst sM; unfold tab; rw [List.range_succ, List.map_append, List.map_append]; simp
          rw [e]; exact p7)
        have R8 := Lib.hid (show wz.ownsRow w3.heap.size 3 1 (.slice Az s1 cz) s1 ((tab s1 fun j => E * ((j : Int) + 1)).map (Value.int .i64)) by
          have e : (tab s1 fun j => E * ((j : Int) + 1)).map (Value.int .i64) = (tab M fun j => E * ((j : Int) + 1)).map (Value.int .i64) ++ [Value.int .i64 T] := by
            rw [← HT.out]; subst sM; unfold tab; rw [List.range_succ, List.map_append, List.map_append]; simp [Int.mul_comm]
          rw [e]; simpa [sM] using ownz)
        have F7 := Lib.hid f7
        clear ownz grz atz p7 f7 p8
        go_wp2_with fail
        rw [rounds_succ]
        go_wp2_with fail
        go_roundw
        case rel => exact ⟨k + 1, s1, N + g, Aq, cq, Az, cz, by omega, by go_num, rfl, by first | rfl | simp [sM], HsE.out, by omega, by omega, by omega, R7.out, R8.out, F7.out.symm', by have h := NZ.out; rw [show M + 1 = s1 by omega] at h; exact h, GZ.out⟩
        case measure => simp [intOf]; omega
    · obtain rfl : n = k := by omega
      have BL := Lib.hid bel
      rcases Nat.eq_zero_or_pos M with m0 | m0
      · have n0 : ((M : Int) == 0) = true := by simp; omega
        clear own7 own8 hfar hnd hgr bel m0
        go_wp2_with fail
        go_ret
        exact ⟨rfl, BL.out⟩
      · have n0 : ((M : Int) == 0) = false := by simp; omega
        by_cases h64 : (64 : Int) < M
        · have n1 : decide ((64 : Int) < M) = true := by simp; omega
          clear own7 own8 hfar hnd hgr bel
          go_wp2_with fail
          go_ret
          exact ⟨rfl, BL.out⟩
        · have n1 : decide ((64 : Int) < M) = false := by simp; omega
          have hris : Rises (tab M fun j => (j : Int) + 1) := fun j hj => by
            rw [tab_len] at hj
            rw [tab_get _ hj]
            unfold prev
            split
            · omega
            · rw [tab_get _ (show j - 1 < M by omega)]; omega
          have htb : Btw 0 1073741824 (tab M fun j => E * ((j : Int) + 1)) := tab_btw fun j hj => by
            have a := Int.mul_nonneg (show 0 ≤ E by omega) (show 0 ≤ (j : Int) + 1 by omega)
            have b : E * ((j : Int) + 1) ≤ 50 * 2000 := Int.mul_le_mul (by omega) (by omega) (by omega) (by omega)
            omega
          have hx : sumI (devs E (tab M fun j => E * ((j : Int) + 1)) (tab M fun j => (j : Int) + 1)) / M + E * (prev (tab M fun j => (j : Int) + 1) M + 1) = E * ((M : Int) + 1) := by
            have hz : sumI (devs E (tab M fun j => E * ((j : Int) + 1)) (tab M fun j => (j : Int) + 1)) = 0 := by
              have hall : ∀ x ∈ devs E (tab M fun j => E * ((j : Int) + 1)) (tab M fun j => (j : Int) + 1), x = 0 := fun x hx => by
                unfold devs tab at hx
                rw [List.zipWith_map] at hx
                rw [List.zipWith_self] at hx
                obtain ⟨j, _, rfl⟩ := List.mem_map.1 hx
                omega
              exact sum_zero _ hall
            have hp : prev (tab M fun j => (j : Int) + 1) M = M := by unfold prev; rw [if_neg (by omega), tab_get _ (by omega)]; omega
            rw [hz, hp]; simp
          have HX := Lib.hid (expect_ok A7 A8 M c7 c8 _ _ E (E * ((M : Int) + 1)) wr (Row.of_own own7) (Row.of_own own8) m0 (by omega) (by omega) hris htb hx)
          have HSq := Lib.hid (seq_ok wr hnd)
          obtain ⟨T, hT⟩ : ∃ T, E * ((M : Int) + 1) = T := ⟨_, rfl⟩
          have Tb : 0 ≤ T ∧ T ≤ 2000 * 50 := by
            rw [← hT]
            exact ⟨Int.mul_nonneg (by omega) (by omega), by rw [Int.mul_comm]; exact Int.mul_le_mul (by omega) (by omega) (by omega) (by omega)⟩
          have u1 : IntKind.i64.wrap ((M : Int) + 1) = (M : Int) + 1 := IntWalk.i64_in _ (by omega)
          have u2 : IntKind.i64.wrap (E * ((M : Int) + 1)) = T := by rw [hT]; exact IntWalk.i64_in _ (by omega)
          rw [hT] at HX
          clear own7 own8 hfar hnd hgr bel hris htb hx hT
          go_wp2_with fail
          refine HX.out.mono ?_
          rintro e w' ⟨rfl, rfl⟩
          go_wp2_with fail
          refine HSq.out.mono ?_
          rintro e w' ⟨rfl, rfl⟩
          go_wp2_with fail
          go_ret
          exact ⟨by simp, BL.out⟩
end Go.Proofs.Ytlnagfmaiabhaaa

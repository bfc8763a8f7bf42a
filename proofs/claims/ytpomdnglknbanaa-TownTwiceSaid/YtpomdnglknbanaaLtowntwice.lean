import Derived.Test.YtpomdnglknbanaaTk
import Derived.Test.YtpomdnglknbanaaLs
import Derived.Deep.DeepCutAuto
set_option linter.unusedSimpArgs false
set_option linter.unusedVariables false
namespace Go.Proofs.Ytpomdnglknbanaa
open Go Go.RowKit
set_option maxRecDepth 100000 in
set_option maxHeartbeats 16000000 in
theorem townTwice_walk (e0 l0 : Int) (a : Option Addr) (len cap : Nat) (Z : List (List Int)) (w : World) (_ : (Lit.int .i64 e0).wf = true) (_ : (Lit.int .i64 l0).wf = true) (hr : IsRows w a len Z) (hc : len ≤ cap ∧ cap ≤ maxLen) :
    Calls Try.prog 18 #[.int .i64 e0, .int .i64 l0, .slice a len cap] w fun e w' => e = .returned (.bool true) ∧ Below w.heap.size w w' := by
  obtain ⟨hcp, hmx⟩ := hc
  unfold maxLen at hmx
  obtain ⟨n, hn⟩ : ∃ n : Nat, min len 60 = n := ⟨_, rfl⟩
  have hmin : min (len : Int) 60 = (n : Int) := by omega
  have hnl : n ≤ len := by omega
  have nl' : (n : Int) ≤ len := by omega
  have nc' : (n : Int) ≤ cap := by omega
  have hn60 : n ≤ 60 := by omega
  obtain ⟨E, hE⟩ : ∃ E, within e0 20 = E - 1 := ⟨within e0 20 + 1, by omega⟩
  obtain ⟨L, hL⟩ : ∃ L, within l0 20 = L - 1 := ⟨within l0 20 + 1, by omega⟩
  have b1 := within_bd e0 (n := 20) (by omega)
  have b2 := within_bd l0 (n := 20) (by omega)
  have E1 : 1 ≤ E := by omega
  have HTwo := Lib.hid (fun w' => two_ok e0 l0 E L w' hE hL)
  have HS0 := Lib.hid (twoT_start (E := E) (L := L) (by omega) (by omega))
  have HB := Lib.hid (fun w' => tbegun2_ok w')
  have HR := Lib.hid hr
  clear hr hn hE hL b1 b2
  go_enter Try.func18, Try.ntmps18
  go_wp2_with fail
  refine (HB.out w).mono ?_
  rintro e w1 ⟨rfl, hb1⟩
  have HB1 := Lib.hid hb1
  have z1 := hb1.size
  clear hb1
  go_wp2_with fail
  refine (HTwo.out w1).mono ?_
  rintro e w2 ⟨t, f0, rfl, rep2, hf2, hb2⟩
  have R2 := Lib.hid rep2
  have HF2 := Lib.hid (fun x hx => Nat.le_trans z1 (hf2 x hx))
  have HB2 := Lib.hid (HB1.out.trans (hb2.mono z1))
  clear rep2 hf2 hb2
  go_wp2_with fail
  go_loopw [29] (fun i wr => ∃ (k : Nat) (S : TSt) (f : Nat → Prop), k ≤ n ∧ i = .int .i64 k ∧ TRep wr t S f ∧ TwoT E (60 * k) S ∧ (∀ x, f x → w.heap.size ≤ x) ∧ Below w.heap.size w wr) (fun i _ => n - (intOf i).toNat)
  case atStart => exact ⟨0, _, f0, Nat.zero_le _, rfl, R2.out, HS0.out, HF2.out, HB2.out⟩
  case round =>
    obtain ⟨wx, rfl⟩ : ∃ z : World, z = wr := ⟨_, rfl⟩
    obtain ⟨k, S, f, hk, rfl, hrep, hok, hf, bel⟩ := hrel
    have sz0 := bel.size
    by_cases hlt : k < n
    · obtain ⟨rb, off, A, C, rfl, rc, hin⟩ := rows_at HR.out (show k < len by omega) bel
      obtain ⟨l, hl⟩ : ∃ l, Z.getD k [] = l := ⟨_, rfl⟩
      rw [hl] at rc hin
      obtain ⟨m, hm⟩ : ∃ m, l.length = m := ⟨_, rfl⟩
      rw [hm] at rc hin
      have kw : IntKind.i64.wrap ((k : Int) + 1) = (k : Int) + 1 := IntWalk.i64_in _ (by omega)
      have kl : (k : Int) < n := by omega
      have HOk := Lib.hid hok
      have HRep := Lib.hid hrep
      have HF := Lib.hid hf
      have HBe := Lib.hid bel
      have HIn := Lib.hid hin
      clear hl hm hin hok hrep hf bel
      by_cases hm2 : m < 2
      · have hm2' : (m : Int) < 2 := by omega
        go_wp2_with fail
        go_roundw
        case rel => exact ⟨k + 1, S, f, by omega, by go_num, HRep.out, HOk.out.later (by omega), HF.out, HBe.out⟩
        case measure => simp [intOf]; omega
      · have hm2' : ¬ (m : Int) < 2 := by omega
        have hm0 : (0 : Int) < m := by omega
        have hm1 : (1 : Int) < m := by omega
        obtain ⟨b2, o2, rfl, hb2, hc2⟩ := HIn.out.1.at (show 0 < m by omega)
        obtain ⟨x0, hx0⟩ : ∃ x, l.getD 0 0 = x := ⟨_, rfl⟩
        obtain ⟨x1, hx1⟩ : ∃ x, l.getD 1 0 = x := ⟨_, rfl⟩
        have cc0 := hc2 0 (by omega)
        have cc1 := hc2 1 (by omega)
        rw [hx0, Nat.add_zero] at cc0
        rw [hx1] at cc1
        have d0 := within_bd x0 (n := 2) (by omega)
        obtain ⟨a0, ha0⟩ : ∃ y, within x0 2 = y := ⟨_, rfl⟩
        rw [ha0] at d0
        obtain ⟨y, hy⟩ : ∃ y, S.way.length = y := ⟨_, rfl⟩
        have hy1000 := HOk.out.tok.len
        have HWy := Lib.hid (fun w' (h : TRep w' t S f) => tway_ok w' h (by omega))
        rw [hy] at HWy hy1000
        have HA0 := Lib.hid ha0
        have HY := Lib.hid hy
        have HC := Lib.hid (And.intro cc0 cc1)
        clear hc2 hx0 hx1 ha0 hy cc0 cc1
        go_wp2_with fail
        refine (HWy.out _ HRep.out).mono ?_
        rintro e w3 ⟨A3, c3, rfl, _, hb3⟩
        have R3 := Lib.hid (HRep.out.below hb3)
        have B3 := Lib.hid (HBe.out.trans (hb3.mono sz0))
        have c0 := (hb3.cell (p := ⟨b2, o2, none⟩) hb2).trans HC.out.1
        have c1 := (hb3.cell (p := ⟨b2, o2 + 1, none⟩) hb2).trans HC.out.2
        clear hb3
        go_wp2_with fail
        refine (within_any x0 2 a0 _ (by omega) (by omega) HA0.out).mono ?_
        rintro e w' ⟨rfl, rfl⟩
        by_cases hz : a0 = 0
        · subst hz
          clear d0
          obtain ⟨g', hg'⟩ : ∃ g', within x1 19 = g' := ⟨_, rfl⟩
          have d1 := within_bd x1 (n := 19) (by omega)
          rw [hg'] at d1
          obtain ⟨g, hg⟩ : ∃ g, 1 + g' = g := ⟨_, rfl⟩
          have gb : 1 ≤ g ∧ g ≤ 60 := by omega
          have vg : IntKind.i64.wrap (1 + g') = g := by rw [hg]; exact IntWalk.i64_in _ (by omega)
          obtain ⟨tk1, tk2, tk3⟩ := HOk.out.tick E1 gb (by omega)
          have HT := Lib.hid (fun w' (h : TRep w' t S f) => ttick_ok w' h tk1)
          rw [tk2] at HT
          have HTk := Lib.hid tk3
          have HG := Lib.hid hg'
          have HGb := Lib.hid gb
          clear hg' hg tk1 tk2 tk3
          go_wp2_with fail
          refine (within_any x1 19 g' _ (by omega) (by omega) HG.out).mono ?_
          rintro e w' ⟨rfl, rfl⟩
          go_wp2_with fail
          refine (HT.out _ R3.out).mono ?_
          rintro e w4 (⟨_, rfl, hb4⟩ | ⟨hle, A4, c4, f4, rfl, _, h4, hf4, k4⟩)
          · have R4 := Lib.hid (R3.out.below hb4)
            have B4 := Lib.hid (B3.out.trans (hb4.mono B3.out.size))
            clear hb4
            go_wp2_with fail
            go_roundw
            case rel => exact ⟨k + 1, S, f, by omega, by go_num, R4.out, HOk.out.later (by omega), HF.out, B4.out⟩
            case measure => simp [intOf]; omega
          · have R4 := Lib.hid h4
            have B4 := Lib.hid (B3.out.trans (k4.below B3.out.size HF.out))
            have F4 := Lib.hid (fun x hx => (hf4 x hx).elim (HF.out x) (fun h => Nat.le_trans B3.out.size h))
            have O4 := Lib.hid (HTk.out hle).1
            clear h4 hf4 k4 hle
            go_wp2_with fail
            go_roundw
            case rel => exact ⟨k + 1, _, f4, by omega, by go_num, R4.out, O4.out.later (by have := HGb.out; omega), F4.out, B4.out⟩
            case measure => simp [intOf]; omega
        by_cases hy0 : y = 0
        · subst hy0
          have hz' : (a0 == 0) = false := by simp [hz]
          clear d0
          obtain ⟨g', hg'⟩ : ∃ g', within x1 19 = g' := ⟨_, rfl⟩
          have d1 := within_bd x1 (n := 19) (by omega)
          rw [hg'] at d1
          obtain ⟨g, hg⟩ : ∃ g, 1 + g' = g := ⟨_, rfl⟩
          have gb : 1 ≤ g ∧ g ≤ 60 := by omega
          have vg : IntKind.i64.wrap (1 + g') = g := by rw [hg]; exact IntWalk.i64_in _ (by omega)
          obtain ⟨tk1, tk2, tk3⟩ := HOk.out.tick E1 gb (by omega)
          have HT := Lib.hid (fun w' (h : TRep w' t S f) => ttick_ok w' h tk1)
          rw [tk2] at HT
          have HTk := Lib.hid tk3
          have HG := Lib.hid hg'
          have HGb := Lib.hid gb
          clear hg' hg tk1 tk2 tk3
          go_wp2_with fail
          refine (within_any x1 19 g' _ (by omega) (by omega) HG.out).mono ?_
          rintro e w' ⟨rfl, rfl⟩
          go_wp2_with fail
          refine (HT.out _ R3.out).mono ?_
          rintro e w4 (⟨_, rfl, hb4⟩ | ⟨hle, A4, c4, f4, rfl, _, h4, hf4, k4⟩)
          · have R4 := Lib.hid (R3.out.below hb4)
            have B4 := Lib.hid (B3.out.trans (hb4.mono B3.out.size))
            clear hb4
            go_wp2_with fail
            go_roundw
            case rel => exact ⟨k + 1, S, f, by omega, by go_num, R4.out, HOk.out.later (by omega), HF.out, B4.out⟩
            case measure => simp [intOf]; omega
          · have R4 := Lib.hid h4
            have B4 := Lib.hid (B3.out.trans (k4.below B3.out.size HF.out))
            have F4 := Lib.hid (fun x hx => (hf4 x hx).elim (HF.out x) (fun h => Nat.le_trans B3.out.size h))
            have O4 := Lib.hid (HTk.out hle).1
            clear h4 hf4 k4 hle
            go_wp2_with fail
            go_roundw
            case rel => exact ⟨k + 1, _, f4, by omega, by go_num, R4.out, O4.out.later (by have := HGb.out; omega), F4.out, B4.out⟩
            case measure => simp [intOf]; omega
        have hz' : (a0 == 0) = false := by simp [hz]
        have hy' : ((y : Int) == 0) = false := by simp [hy0]
        have d1 := within_bd x1 (n := y) (by omega)
        obtain ⟨i, hi⟩ : ∃ i : Nat, within x1 y = i := ⟨(within x1 y).toNat, by omega⟩
        have hiy : i < y := by omega
        have yi : (i : Int) < y := by omega
        obtain ⟨j, q, hj, q1, q2, q3, q4⟩ := HOk.out.tok.text (by omega) (i := i) (by rw [HY.out]; omega)
        have tw1 := HOk.out.bring (u := 0) (by omega) hj ⟨q1, q2⟩ q3
        have tw2 := tw1.bring (u := 0) (by omega) hj ⟨q1, q2⟩ (by rw [setN_seq]; exact q3)
        have HB1 := Lib.hid (fun w' (h : TRep w' t S f) => tbring_ok (i := i) (u := 0) w' h (by rw [HY.out]; omega) (by rw [HOk.out.tok.sn]; omega) (by rw [HOk.out.dead]) (HOk.out.tok.tn 0 (by omega)).ok (nmT_ok j) ⟨q1, q2⟩ q4)
        obtain ⟨S1, hS1⟩ : ∃ x, setN S 0 (hearF (S.nd 0) (nmT j) q).1 = x := ⟨_, rfl⟩
        have e1 : S1.nd 0 = (hearF (S.nd 0) (nmT j) q).1 := by rw [← hS1, setN_at]
        have y1 : S1.way = S.way := by rw [← hS1]; rfl
        rw [hS1] at HB1 tw1 tw2
        obtain ⟨ag1, ag2⟩ := hear_again (s := S.nd 0) (id := nmT j) (q := q)
        rw [← e1] at ag1 ag2
        have nag : has (S1.nd 0).peers (nmT j) = true → newB (S1.nd 0) (nmT j) q = false := fun h => by
          rw [e1] at h ⊢
          exact newB_again (by rw [hearF_has] at h; exact h)
        have HB2 := Lib.hid (fun f' w' (h : TRep w' t S1 f') => tbring_ok (i := i) (u := 0) w' h (by rw [y1, HY.out]; omega) (by rw [tw1.tok.sn]; omega) (by rw [tw1.dead]) (tw1.tok.tn 0 (by omega)).ok (nmT_ok j) ⟨q1, q2⟩ (by rw [y1]; exact q4))
        obtain ⟨S2, hS2⟩ : ∃ x, setN S1 0 (hearF (S1.nd 0) (nmT j) q).1 = x := ⟨_, rfl⟩
        have e2 : S2.nd 0 = (hearF (S1.nd 0) (nmT j) q).1 := by rw [← hS2, setN_at]
        have y2 : S2.way = S.way := by rw [← hS2]; exact y1
        rw [hS2] at HB2 tw2
        rw [ag1] at HB2
        have lv2 := ag2 nB
        rw [← e2] at lv2
        obtain ⟨vk, hvk⟩ : ∃ vk, levN (S1.nd 0) nB = vk := ⟨_, rfl⟩
        rw [hvk] at lv2
        have HL1 := Lib.hid (fun f' w' (h : TRep w' t S1 f') => tlevel_ok (i := 0) w' nB h (by rw [tw1.tok.sn]; omega) (by rw [tw1.dead]) (tw1.tok.tn 0 (by omega)).ok vk 0 hvk (by rw [show has (S1.nd 0).peers nB = true from tw1.tok.knows 0 1 (by omega) (by omega)]; rfl))
        have HL2 := Lib.hid (fun f' w' (h : TRep w' t S2 f') => tlevel_ok (i := 0) w' nB h (by rw [tw2.tok.sn]; omega) (by rw [tw2.dead]) (tw2.tok.tn 0 (by omega)).ok vk 0 lv2 (by rw [show has (S2.nd 0).peers nB = true from tw2.tok.knows 0 1 (by omega) (by omega)]; rfl))
        have HW2 := Lib.hid (fun f' w' (h : TRep w' t S2 f') => tway_ok w' h (by rw [y2, HY.out]; omega))
        rw [y2, HY.out] at HW2
        have KB := Lib.hid (lev_bd (tw1.tok.tn 0 (by omega)).ok nB)
        rw [hvk] at KB
        have O2 := Lib.hid tw2
        have HI := Lib.hid hi
        have HNg := Lib.hid nag
        clear hi d1 d0 tw1 tw2 e1 e2 y1 y2 hS1 hS2 ag1 ag2 lv2 hvk nag q1 q2 q3 q4 hj
        go_wp2_with fail
        refine (within_any x1 y i _ (by omega) (by omega) HI.out).mono ?_
        rintro e w' ⟨rfl, rfl⟩
        go_wp2_with fail
        refine (HB1.out _ R3.out).mono ?_
        rintro e w4 ⟨A4, c4, e4, f4, rfl, h4, hf4, k4, _⟩
        have R4 := Lib.hid h4
        have B4 := Lib.hid (B3.out.trans (k4.below B3.out.size HF.out))
        have F4 := Lib.hid (fun x hx => (hf4 x hx).elim (HF.out x) (fun h => Nat.le_trans B3.out.size h))
        clear h4 hf4 k4
        go_wp2_with fail
        refine (HL1.out _ _ R4.out).mono ?_
        rintro e w5 ⟨rfl, hb5⟩
        have R5 := Lib.hid (R4.out.below hb5)
        have B5 := Lib.hid (B4.out.trans (hb5.mono B4.out.size))
        clear hb5
        go_wp2_with fail
        refine (HB2.out _ _ R5.out).mono ?_
        rintro e w6 ⟨A6, c6, e6, f6, rfl, h6, hf6, k6, _, g6, g6'⟩
        have E6 : (e6 == 0) = false := by
          cases hh : has (S1.nd 0).peers (nmT j) with
          | true =>
            have := g6 hh (HNg.out hh)
            subst this
            rfl
          | false =>
            have := g6' hh
            simpa using this
        have R6 := Lib.hid h6
        have B6 := Lib.hid (B5.out.trans (k6.below B5.out.size F4.out))
        have F6 := Lib.hid (fun x hx => (hf6 x hx).elim (F4.out x) (fun h => Nat.le_trans B5.out.size h))
        clear h6 hf6 k6 g6 g6'
        go_wp2_with fail
        refine (HL2.out _ _ R6.out).mono ?_
        rintro e w7 ⟨rfl, hb7⟩
        have R7 := Lib.hid (R6.out.below hb7)
        have B7 := Lib.hid (B6.out.trans (hb7.mono B6.out.size))
        clear hb7
        go_wp2_with fail
        refine (HW2.out _ _ R7.out).mono ?_
        rintro e w8 ⟨A8, c8, rfl, _, hb8⟩
        have R8 := Lib.hid (R7.out.below hb8)
        have B8 := Lib.hid (B7.out.trans (hb8.mono B7.out.size))
        clear hb8
        go_wp2_with fail
        go_roundw
        case rel => exact ⟨k + 1, _, f6, by omega, by go_num, R8.out, O2.out.later (by omega), F6.out, B8.out⟩
        case measure => simp [intOf]; omega
    · obtain rfl : n = k := by omega
      have HBe := Lib.hid bel
      clear bel hrep hok hf
      go_wp2_with fail
      go_ret
      exact ⟨rfl, HBe.out⟩
end Go.Proofs.Ytpomdnglknbanaa

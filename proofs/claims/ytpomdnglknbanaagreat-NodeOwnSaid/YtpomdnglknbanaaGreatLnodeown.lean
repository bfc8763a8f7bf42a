import Derived.Test.YtpomdnglknbanaaGreatWz
import Derived.Deep.DeepCutAuto
set_option linter.unusedSimpArgs false
set_option linter.unusedVariables false
namespace Go.Proofs.YtpomdnglknbanaaGreat
open Go Go.RowKit
theorem tab_len {w : World} {base n c : Nat} {A : Option Addr} {L : List Peer} (h : Tab w base A n c L) : n = L.length := by
  obtain ⟨xs, own, pv⟩ := h
  have h1 := own.1
  have h2 := pv.len
  omega
theorem AOK.hasB {E L T : Int} {s : NSt} (h : AOK E L T s) : has s.peers nB = true := by
  have hm : nB ∈ s.peers.map (·.id) := by rw [h.pre.ids]; simp
  obtain ⟨p, hp, e⟩ := List.mem_map.1 hm
  exact (has_iff h.pre.ok.tab.order nB).2 ⟨p, hp, e⟩
set_option maxRecDepth 100000 in
set_option maxHeartbeats 32000000 in
theorem nodeOwn_walk (e0 : Int) (a : Option Addr) (len cap : Nat) (Z : List (List Int)) (tA : Option Addr) (tn tc : Nat) (TL : List Turn) (w : World) (_ : (Lit.int .i64 e0).wf = true) (hr : IsRows w a len Z) (hc : len ≤ cap ∧ cap ≤ maxLen) (ht : URow w tA tn TL) (tnil : tA = none → tn = 0 ∧ tc = 0) (tb : tn * 16 ≤ 140737488351232) :
    Calls Tryz.prog 3 #[.int .i64 e0, .slice a len cap, .slice tA tn tc] w fun e w' => e = .returned (.bool true) ∧ Below w.heap.size w w' := by
  obtain ⟨hcp, hmx⟩ := hc
  unfold maxLen at hmx
  obtain ⟨n, hn⟩ : ∃ n : Nat, min len 40 = n := ⟨_, rfl⟩
  have hmin : min (len : Int) 40 = (n : Int) := by omega
  have hnl : n ≤ len := by omega
  have nl' : (n : Int) ≤ len := by omega
  have nc' : (n : Int) ≤ cap := by omega
  have hn40 : n ≤ 40 := by omega
  obtain ⟨E, hE⟩ : ∃ E, within e0 50 = E - 1 := ⟨within e0 50 + 1, by omega⟩
  obtain ⟨G, hG⟩ : ∃ E, within e0 20 = E - 1 := ⟨within e0 20 + 1, by omega⟩
  have b1 := within_bd e0 (n := 50) (by omega)
  have b2 := within_bd e0 (n := 20) (by omega)
  have hL : within 1 20 = 2 - 1 := by decide
  have HOne := Lib.hid (fun w' => one_ok e0 1 E 2 w' hE hL)
  have HTwo := Lib.hid (fun w' => two_ok e0 1 G 2 w' hG hL)
  have HOk := Lib.hid (oneS_ok (E := E) (L := 2) ⟨by omega, by omega⟩ ⟨by omega, by omega⟩)
  have HOt := Lib.hid (twoT_start (E := G) (L := 2) ⟨by omega, by omega⟩ ⟨by omega, by omega⟩)
  have G1 : 1 ≤ G := by omega
  have HR := Lib.hid hr
  have HNb := Lib.hid (fun w' => nbegun_ok w')
  have HTb := Lib.hid (fun w' => tbegun2_ok w')
  have tln := ht.1
  have HUL := Lib.hid (show (uvs TL).length = tn * 2 by rw [uvs_len, tln])
  have HRo := Lib.hid (fun w' (hb : Below w.heap.size w w') => roomyU_ok tA tn tc (uvs TL) w' HUL.out (ht.below hb).cellsAt (uvs_one TL) tnil tb)
  have HUb := Lib.hid (fun w' (hb : Below w.heap.size w w') => ht.below hb)
  have HTl := Lib.hid tln
  have HOf := Lib.hid (fun g w' (h : URow w' (some ⟨g, 0, none⟩) tn TL) => mofW (some ⟨g, 0, none⟩) tn (tn + 3) TL w' h ⟨by omega, by unfold maxLen; omega, (fun e => by cases e)⟩)
  have HAt := Lib.hid (fun g w' (h : URow w' (some ⟨g, 0, none⟩) tn TL) => matW (some ⟨g, 0, none⟩) tn (tn + 3) TL w' h (by omega))
  have HEq := Lib.hid (fun g w' (h : URow w' (some ⟨g, 0, none⟩) tn TL) (h2 : URow w' tA tn TL) => equalU_ok (some ⟨g, 0, none⟩) tA tn (tn + 3) tc TL w' h h2 (by omega))
  clear hr hn hE hG hL b1 b2 ht tnil tln HUL
  go_enter Tryz.func3, Tryz.ntmps3
  go_wp2_with fail
  refine (HNb.out w).mono ?_
  rintro e w1 ⟨rfl, hb1⟩
  have B1 := Lib.hid hb1
  clear hb1
  go_wp2_with fail
  refine (HTb.out w1).mono ?_
  rintro e w2 ⟨rfl, hb2⟩
  have B2 := Lib.hid (B1.out.trans (hb2.mono B1.out.size))
  clear hb2
  go_wp2_with fail
  refine (HRo.out w2 B2.out).mono ?_
  rintro e w3 ⟨g, rfl, own3, mk3, hb3⟩
  have M3 := Lib.hid mk3
  have U3 := Lib.hid (URow.of_own HTl.out own3)
  have B3 := Lib.hid (B2.out.trans (hb3.mono B2.out.size))
  have g3 := (own3.lt g rfl).2
  clear own3 mk3 hb3
  go_wp2_with fail
  refine (HOf.out g w3 U3.out).mono ?_
  rintro e w4 ⟨⟨v4, rfl⟩, hb4⟩
  have U4 := Lib.hid (U3.out.below hb4)
  have B4 := Lib.hid (B3.out.trans (hb4.mono B3.out.size))
  have K4 := Lib.hid hb4
  have z4 := hb4.size
  clear hb4
  go_wp2_with fail
  refine (HAt.out g w4 U4.out).mono ?_
  rintro e w5 ⟨⟨v5, rfl⟩, hb5⟩
  have U5 := Lib.hid (U4.out.below hb5)
  have B5 := Lib.hid (B4.out.trans (hb5.mono B4.out.size))
  have K5 := Lib.hid (K4.out.trans (hb5.mono z4))
  have z5 := hb5.size
  clear hb5
  go_wp2_with fail
  refine (HEq.out g w5 U5.out (HUb.out w5 B5.out)).mono ?_
  rintro e w6 ⟨rfl, hb6⟩
  have B6 := Lib.hid (B5.out.trans (hb6.mono B5.out.size))
  have K6 := Lib.hid (K5.out.trans (hb6.mono (by omega)))
  have z6 := hb6.size
  clear hb6
  go_wp2_with fail
  refine (markedU_ok g tn w6 (fun i hi j hj => (K6.out.cell (p := ⟨g, (tn + i) * 2 + j, none⟩) g3).trans (M3.out i hi j hj)) (by omega) tb).mono ?_
  rintro e w7 ⟨rfl, hb7⟩
  have B7 := Lib.hid (B6.out.trans (hb7.mono B6.out.size))
  clear hb7 K4 K5 K6 M3 U3 U4 U5 z4 z5 z6 g3 HRo HUb HOf HAt HEq
  go_wp2_with fail
  refine (HOne.out w7).mono ?_
  rintro e w8 ⟨x, f1, rfl, rep1, hf1, hb8⟩
  have R1 := Lib.hid rep1
  have F1 := Lib.hid hf1
  have L1 := Lib.hid (NRep.lt rep1)
  have B8 := Lib.hid (B7.out.trans (hb8.mono B7.out.size))
  have z8 := hb8.size
  clear rep1 hf1 hb8
  go_wp2_with fail
  refine (HOne.out w8).mono ?_
  rintro e w9 ⟨y, f2, rfl, rep2, hf2, hb9⟩
  have R1 := Lib.hid (R1.out.below hb9)
  have R2 := Lib.hid rep2
  have F2 := Lib.hid hf2
  have L2 := Lib.hid (NRep.lt rep2)
  have B9 := Lib.hid (B8.out.trans (hb9.mono B8.out.size))
  have z9 := hb9.size
  clear rep2 hf2 hb9
  go_wp2_with fail
  refine (HTwo.out w9).mono ?_
  rintro e w10 ⟨t, f3, rfl, rep3, hf3, hb10⟩
  have R1 := Lib.hid (R1.out.below hb10)
  have R2 := Lib.hid (R2.out.below hb10)
  have R3 := Lib.hid rep3
  have F3 := Lib.hid hf3
  have L3 := Lib.hid (TRep.lt rep3)
  have B10 := Lib.hid (B9.out.trans (hb10.mono B9.out.size))
  have z10 := hb10.size
  clear rep3 hf3 hb10
  go_wp2_with fail
  refine (HTwo.out w10).mono ?_
  rintro e w11 ⟨u, f4, rfl, rep4, hf4, hb11⟩
  have Q0 := Lib.hid (quad_start (R1.out.below hb11) (R2.out.below hb11) (R3.out.below hb11) rep4 (fun x hx => ⟨F1.out x hx, L1.out x hx⟩) (fun x hx => ⟨F2.out x hx, L2.out x hx⟩) (fun x hx => ⟨F3.out x hx, L3.out x hx⟩) (fun x hx => ⟨hf4 x hx, TRep.lt rep4 x hx⟩) z8 z9 z10 hb11.size (Nat.le_refl _))
  have B11 := Lib.hid (B10.out.trans (hb11.mono B10.out.size))
  clear rep4 hf4 hb11 R1 R2 R3 F1 F2 F3 L1 L2 L3 z8 z9 z10 HOne HTwo
  have WB := Lib.hid B7.out.size
  go_wp2_with fail
  go_loopw [63] (fun i wr => ∃ (k : Nat) (s : NSt) (S : TSt) (c : Nat → Nat), k ≤ n ∧ i = .int .i64 k ∧ QuadC w7.heap.size wr c x y t u s s S S ∧ AOK E 2 (200 * k) s ∧ TwoT G (20 * k) S ∧ Below w.heap.size w wr) (fun i _ => n - (intOf i).toNat)
  case atStart => exact ⟨0, _, _, _, Nat.zero_le _, rfl, Q0.out, HOk.out, HOt.out, B11.out⟩
  case round =>
    obtain ⟨wx, rfl⟩ : ∃ z : World, z = wr := ⟨_, rfl⟩
    obtain ⟨k, s, S, c, hk, rfl, hq, hok, hot, bel⟩ := hrel
    have sz0 := bel.size
    by_cases hlt : k < n
    · obtain ⟨rb, off, A, C, rfl, hrb, rc0, hin0⟩ := HR.out.2 k (show k < len by omega)
      obtain ⟨l, hl⟩ : ∃ l, Z.getD k [] = l := ⟨_, rfl⟩
      rw [hl] at rc0 hin0
      obtain ⟨m, hm⟩ : ∃ m, l.length = m := ⟨_, rfl⟩
      rw [hm] at rc0 hin0
      have rc := (bel.cell (p := ⟨rb, off + k, none⟩) hrb).trans rc0
      have HIn := Lib.hid (fun wr (h : Below w.heap.size w wr) => hin0.below h)
      have HLm := Lib.hid hm
      have kw : IntKind.i64.wrap ((k : Int) + 1) = (k : Int) + 1 := IntWalk.i64_in _ (by omega)
      have kl : (k : Int) < n := by omega
      obtain ⟨q, hq'⟩ : ∃ q, askL s l = q := ⟨_, rfl⟩
      have HOk1 := Lib.hid (askL_ok hok (by omega) l)
      have HAs := Lib.hid (fun b f w' (h : NRep w' b s f) (hin : InRow w' A m C l) => asked_ok b s f m C A l w' h hok (by omega) hin)
      rw [hq'] at HOk1 HAs
      have Qx := Lib.hid hq
      have BX := Lib.hid bel
      have HOt' := Lib.hid hot
      clear hl hm hin0 rc0 hq hok hot bel hq'
      go_wp2_with fail
      refine (HAs.out x _ wx Qx.out.a (HIn.out wx BX.out)).mono ?_
      rintro e w12 ⟨A1, c1, m1, rfl, own1, rep1, hm1, hm1', kept1⟩
      have Q1 := Lib.hid (Qx.out.setA rep1 kept1 ⟨hm1, hm1'⟩ (fun x hx => hx))
      have B12 := Lib.hid (BX.out.trans ((kept1.below (B := w.heap.size) sz0 (fun x hx => Nat.le_trans WB.out (Qx.out.col x (by have : c x = 1 := hx; omega)).1))))
      have C1 := Lib.hid (show ∀ g, (Value.slice A1 q.2.length c1).ownBlock = some g → recol c wx.heap.size m1 1 g = 0 ∧ g < w12.heap.size ∧ w.heap.size ≤ g from fun g hg => by
        have h1 := own1.lt g hg
        exact ⟨by rw [recol_new h1.1]; exact Qx.out.zero (by omega), h1.2, by omega⟩)
      have O1 := Lib.hid own1
      have z12 := kept1.size
      obtain ⟨c12, hc12⟩ : ∃ f, recol c wx.heap.size m1 1 = f := ⟨_, rfl⟩
      rw [hc12] at Q1 C1
      clear own1 rep1 kept1 hc12
      go_wp2_with fail
      refine (HAs.out y _ w12 Q1.out.b (HIn.out w12 B12.out)).mono ?_
      rintro e w13 ⟨A2, c2, m2, rfl, own2, rep2, hm2, hm2', kept2⟩
      have Q2 := Lib.hid (Q1.out.setB rep2 kept2 ⟨hm2, hm2'⟩ (fun x hx => hx))
      have B13 := Lib.hid (B12.out.trans ((kept2.below (B := w.heap.size) (by omega) (fun x hx => Nat.le_trans WB.out (Q1.out.col x (by have : c12 x = 2 := hx; omega)).1))))
      have O2 := Lib.hid own2
      have O1 := Lib.hid (own_same (f := fun x => c12 x ≠ 2) O1.out (fun g hg => by have := (C1.out g hg).1; omega) (kept2.same (fun x hx => hx)))
      have C1 := Lib.hid (show ∀ g, (Value.slice A1 q.2.length c1).ownBlock = some g → recol c12 w12.heap.size m2 2 g = 0 ∧ w.heap.size ≤ g from fun g hg => by
        obtain ⟨h1, h2, h3⟩ := C1.out g hg
        exact ⟨by rw [recol_old h2]; exact h1, h3⟩)
      have z13 := kept2.size
      obtain ⟨c13, hc13⟩ : ∃ f, recol c12 w12.heap.size m2 2 = f := ⟨_, rfl⟩
      rw [hc13] at Q2 C1
      have M1 := Lib.hid (show m1 ≤ w13.heap.size by omega)
      clear own2 rep2 kept2 hc13 hm1 hm1' hm2 hm2' Q1 Qx
      obtain ⟨nn, hnn⟩ : ∃ z, q.2.length = z := ⟨_, rfl⟩
      have HEqN := Lib.hid (equalN_ok A1 A2 q.2.length c1 c2 q.2 w13 (noteRow_own O1.out rfl) (noteRow_own O2.out rfl) (own_le O1.out))
      rw [hnn] at O1 C1 HEqN
      have o1 := own_form O1.out
      obtain ⟨_, _, e1, nc1, cm1, _⟩ := o1
      simp only [Value.slice.injEq, true_and] at e1
      obtain ⟨rfl, rfl⟩ := e1
      have HSp := Lib.hid (fun w' (h : w'.ownsRow m1 46 3 (.slice A1 nn c1) nn (notesC q.2)) (hz : m1 ≤ w'.heap.size) => spoilN_ok A1 nn c1 m1 w' (own_wrS h) nc1 cm1 hz)
      try rw [hnn]
      clear hnn nc1 cm1
      go_wp2_with fail
      refine HEqN.out.mono ?_
      rintro e w14 ⟨rfl, hb14⟩
      have Q3 := Lib.hid (Q2.out.below hb14)
      have O3 := Lib.hid (own_below O1.out hb14)
      have B14 := Lib.hid (B13.out.trans (hb14.mono B13.out.size))
      have zz14 := hb14.size
      clear hb14 O1 O2 HEqN Q2
      go_wp2_with fail
      have y14 := B14.out.size
      have M14 := Lib.hid (show m1 ≤ w14.heap.size from Nat.le_trans M1.out zz14)
      refine (HSp.out w14 O3.out M14.out).mono ?_
      rintro e w15 ⟨⟨v15, rfl⟩, gr15⟩
      have Q4 := Lib.hid (Q3.out.grown gr15 (fun g hg => (C1.out g hg).1))
      have B15 := Lib.hid (B14.out.grown gr15 y14 (fun g hg => (C1.out g hg).2))
      clear gr15 HSp O3 C1 Q3 y14
      obtain ⟨s1, hs1⟩ : ∃ z, q.1 = z := ⟨_, rfl⟩
      rw [hs1] at Q4 HOk1
      have HPe := Lib.hid (fun b f w' (h : NRep w' b s1 f) => npeers_ok b s1 f w' h HOk1.out.pre.ok)
      have HSu := Lib.hid (fun b f w' (h : NRep w' b s1 f) => nsubs_ok b s1 f w' h HOk1.out.pre.ok)
      have HTi := Lib.hid (fun b f w' (h : NRep w' b s1 f) => atick (g := 3) w' h HOk1.out.pre (by omega) (by omega))
      have HOk2 := Lib.hid (show AOK E 2 (200 * (k + 1 : Nat)) (tickF s1 3).1 from ((HOk1.out.pre.tick (g := 3) (by omega) (by omega)).tell).later (by omega))
      obtain ⟨s2, hs2⟩ : ∃ z, (tickF s1 3).1 = z := ⟨_, rfl⟩
      rw [hs2] at HTi HOk2
      obtain ⟨S1, hS1⟩ : ∃ z, s1.subs.length = z := ⟨_, rfl⟩
      rw [hS1] at HSu
      clear hs1 hs2 hS1 HOk1
      go_wp2_with fail
      refine (HPe.out x _ w15 Q4.out.a).mono ?_
      rintro e w16 ⟨AP, np, cp, rfl, ⟨xs, ownp, pvp⟩, hb16⟩
      have HSo := Lib.hid (spoilt_ok AP np cp w15.heap.size s1.peers xs w16 w16 ownp pvp ⟨Nat.le_refl _, fun _ _ _ => rfl⟩ hb16.size)
      have K16 := Lib.hid hb16
      clear ownp pvp hb16
      go_wp2_with fail
      refine HSo.out.mono ?_
      rintro e w17 ⟨⟨v17, rfl⟩, on17⟩
      have K17 := Lib.hid (on17.toBelow K16.out (Nat.le_refl _) K16.out.size)
      have Q5 := Lib.hid (Q4.out.below K17.out)
      have B17 := Lib.hid (B15.out.trans (K17.out.mono B15.out.size))
      clear on17 HSo K16 K17 Q4
      go_wp2_with fail
      refine (HSu.out x _ w17 Q5.out.a).mono ?_
      rintro e w18 ⟨AS, cs, rfl, owns, hb18⟩
      have os := own_form owns
      obtain ⟨_, _, es, ncs, cms, _⟩ := os
      simp only [Value.slice.injEq, true_and] at es
      obtain ⟨rfl, rfl⟩ := es
      have HSS := Lib.hid (spoilS_ok AS S1 cs w17.heap.size w18 (own_wrS owns) ncs cms hb18.size)
      have LS := Lib.hid (fun g hg => (owns.lt g hg).1)
      have K18 := Lib.hid hb18
      clear owns ncs cms hb18
      go_wp2_with fail
      refine HSS.out.mono ?_
      rintro e w19 ⟨⟨v19, rfl⟩, gr19⟩
      have K19 := Lib.hid (K18.out.grown gr19 K18.out.size (fun g hg => LS.out g hg))
      have Q6 := Lib.hid (Q5.out.below K19.out)
      have B19 := Lib.hid (B17.out.trans (K19.out.mono B17.out.size))
      clear gr19 HSS LS K18 K19 Q5
      go_wp2_with fail
      refine (HTi.out x _ w19 Q6.out.a).mono ?_
      rintro e w20 ⟨vt, A', c', mt, rfl, hmt, ownt, _, rep20, kept20⟩
      have Q7 := Lib.hid (Q6.out.setA rep20 kept20 ⟨Nat.le_refl _, kept20.size⟩ (fun x hx => .inl hx))
      have B20 := Lib.hid (B19.out.trans ((kept20.below (B := w.heap.size) B19.out.size (fun x hx => Nat.le_trans WB.out (Q6.out.col x (by have : c13 x = 1 := hx; omega)).1))))
      obtain ⟨At, ct, rfl, nct, cmt, _⟩ := own_form ownt
      have Ct := Lib.hid (show ∀ g, (Value.slice At mt ct).ownBlock = some g → recol c13 w19.heap.size w19.heap.size 1 g = 0 ∧ w.heap.size ≤ g from fun g hg => by
        have h1 := ownt.lt g hg
        exact ⟨by rw [recol_new h1.1]; exact Q6.out.zero h1.1, Nat.le_trans B19.out.size h1.1⟩)
      have HSt := Lib.hid (spoilT_ok At mt ct w19.heap.size ⟨#[115, 112, 111, 105, 108, 116]⟩ w20 (by have := own_wrS ownt; rwa [Nat.mul_one] at this) nct cmt)
      obtain ⟨c20, hc20⟩ : ∃ f, recol c13 w19.heap.size w19.heap.size 1 = f := ⟨_, rfl⟩
      rw [hc20] at Q7 Ct
      clear ownt rep20 kept20 hmt nct cmt hc20 Q6
      have HTT := Lib.hid (fun (g : Int) (hg : 1 ≤ g ∧ g ≤ 20) t f w' (h : TRep w' t S f) => tstep_ok w' h HOt'.out G1 hg (by omega))
      have HNx := Lib.hid (fun (g : Int) (hg : 1 ≤ g ∧ g ≤ 20) => (show TwoT G (20 * (k + 1 : Nat)) (stepT S g) from (stepT_ok HOt'.out G1 hg (by omega)).later (by omega)))
      clear HOt'
      by_cases hmt : (0 : Int) < (mt : Int)
      case' pos =>
        go_wp2_with fail
        refine HSt.out.mono ?_
        rintro e w21 ⟨⟨v21, rfl⟩, gr21, _, _⟩
        have Q8 := Lib.hid (Q7.out.grown gr21 (fun g hg => (Ct.out g hg).1))
        have B21 := Lib.hid (B20.out.grown gr21 B20.out.size (fun g hg => (Ct.out g hg).2))
        clear gr21 HSt Ct Q7 hmt
        go_wp2_with fail
      case' neg =>
        obtain ⟨w21, rfl⟩ : ∃ z : World, z = w20 := ⟨_, rfl⟩
        have Q8 := Q7
        have B21 := B20
        clear HSt Ct Q7
        go_wp2_with fail
        clear hmt
      all_goals
        refine (HTi.out y _ w21 Q8.out.b).mono ?_
        rintro e w22 ⟨vt2, A2', c2', mt2, rfl, _, _, _, rep22, kept22⟩
        have Q9 := Lib.hid (Q8.out.setB rep22 kept22 ⟨Nat.le_refl _, kept22.size⟩ (fun x hx => .inl hx))
        have B22 := Lib.hid (B21.out.trans ((kept22.below (B := w.heap.size) B21.out.size (fun x hx => Nat.le_trans WB.out (Q8.out.col x (by have : c20 x = 2 := hx; omega)).1))))
        obtain ⟨c22, hc22⟩ : ∃ f, recol c20 w21.heap.size w21.heap.size 2 = f := ⟨_, rfl⟩
        rw [hc22] at Q9
        clear rep22 kept22 hc22 Q8
        by_cases hm0 : (0 : Int) < (m : Int)
        case' pos =>
          obtain ⟨b2, o2, rfl, hb2, hc2⟩ := (HIn.out w22 B22.out).1.at (show 0 < m by omega)
          obtain ⟨x0, hx0⟩ : ∃ x, l.getD 0 0 = x := ⟨_, rfl⟩
          have cc0 := hc2 0 (by omega)
          rw [hx0, Nat.add_zero] at cc0
          have d0 := within_bd x0 (n := 9) (by omega)
          obtain ⟨g', hg'⟩ : ∃ y, within x0 9 = y := ⟨_, rfl⟩
          rw [hg'] at d0
          have HG' := Lib.hid hg'
          obtain ⟨g9, hg9⟩ : ∃ g9, 1 + g' = g9 := ⟨_, rfl⟩
          have vg : IntKind.i64.wrap (1 + g') = g9 := by rw [hg9]; exact IntWalk.i64_in _ (by omega)
          have HG9 := Lib.hid (show 1 ≤ g9 ∧ g9 ≤ 20 by omega)
          clear hc2 hx0 hg' hg9
          go_wp2_with fail
          refine (within_any x0 9 g' _ (by omega) (by omega) HG'.out).mono ?_
          rintro e w' ⟨rfl, rfl⟩
          go_wp2_with fail
          clear cc0 hb2 vg d0
        case' neg =>
          have HG9 := Lib.hid (show (1 : Int) ≤ 1 ∧ (1 : Int) ≤ 20 by omega)
          go_wp2_with fail
        all_goals
          clear hm0
          refine (HTT.out _ HG9.out t _ w22 Q9.out.t).mono ?_
          rintro e w23 ⟨⟨v23, rfl⟩, f23, rep23, hf23, kept23⟩
          have Q10 := Lib.hid (Q9.out.setT rep23 kept23 ⟨kept23.size, Nat.le_refl _⟩ hf23)
          have B23 := Lib.hid (B22.out.trans ((kept23.below (B := w.heap.size) B22.out.size (fun x hx => Nat.le_trans WB.out (Q9.out.col x (by have : c22 x = 3 := hx; omega)).1))))
          obtain ⟨c23, hc23⟩ : ∃ f, recol c22 w22.heap.size w23.heap.size 3 = f := ⟨_, rfl⟩
          rw [hc23] at Q10
          clear rep23 hf23 kept23 hc23 Q9
          go_wp2_with fail
          refine (HTT.out _ HG9.out u _ w23 Q10.out.u).mono ?_
          rintro e w24 ⟨⟨v24, rfl⟩, f24, rep24, hf24, kept24⟩
          have Q11 := Lib.hid (Q10.out.setU rep24 kept24 ⟨kept24.size, Nat.le_refl _⟩ hf24)
          have B24 := Lib.hid (B23.out.trans ((kept24.below (B := w.heap.size) B23.out.size (fun x hx => Nat.le_trans WB.out (Q10.out.col x (by have : c23 x = 4 := hx; omega)).1))))
          obtain ⟨c24, hc24⟩ : ∃ f, recol c23 w23.heap.size w24.heap.size 4 = f := ⟨_, rfl⟩
          rw [hc24] at Q11
          obtain ⟨S', q11, ot2⟩ : ∃ S', QuadC w7.heap.size w24 c24 x y t u s2 s2 S' S' ∧ TwoT G (20 * (k + 1 : Nat)) S' := ⟨_, Q11.out, HNx.out _ HG9.out⟩
          have Q11 := Lib.hid q11
          have HOt2 := Lib.hid ot2
          clear rep24 hf24 kept24 hc24 Q10 HTT HNx HG9 q11 ot2
          have HWy := Lib.hid (tway_ok w24 Q11.out.t (by have := HOt2.out.tok.len; omega))
          go_wp2_with fail
          refine HWy.out.mono ?_
          rintro e w25 ⟨Aw, cw, rfl, ownw, hb25⟩
          have ow := own_form ownw
          obtain ⟨_, _, ew, ncw, cmw, _⟩ := ow
          simp only [Value.slice.injEq, true_and] at ew
          obtain ⟨rfl, rfl⟩ := ew
          have HSw := Lib.hid (spoilT_ok Aw _ cw w24.heap.size ⟨#[115, 112, 111, 105, 108, 116]⟩ w25 (by have := own_wrS ownw; rwa [Nat.mul_one] at this) ncw cmw)
          have LW := Lib.hid (fun g hg => (ownw.lt g hg).1)
          have K25 := Lib.hid hb25
          clear ownw ncw cmw hb25 HWy
          go_wp2_with fail
          refine HSw.out.mono ?_
          rintro e w26 ⟨⟨v26, rfl⟩, gr26, _, _⟩
          have K26 := Lib.hid (K25.out.grown gr26 K25.out.size (fun g hg => LW.out g hg))
          have Q12 := Lib.hid (Q11.out.below K26.out)
          have B26 := Lib.hid (B24.out.trans (K26.out.mono B24.out.size))
          clear gr26 HSw LW K25 K26 Q11
          go_wp2_with fail
          go_roundw
          case rel => exact ⟨k + 1, s2, S', c24, by omega, by go_num, Q12.out, HOk2.out, HOt2.out, B26.out⟩
          case measure => simp [intOf]; omega
    · obtain rfl : n = k := by omega
      have Qx := Lib.hid hq
      have BX := Lib.hid bel
      have HOt2 := Lib.hid hot
      have hB := hok.hasB
      obtain ⟨ev, hev⟩ : ∃ z : Int, (if newB s nB 99 = true then 0 else 5) = z := ⟨_, rfl⟩
      have tns : TN s := ⟨hok.pre.ok, hok.pre.inc, by rw [hok.pre.seq, hok.pre.every]⟩
      have HOk3 := Lib.hid (TN.hear tns nB_ok (q := 99) (by omega)).ok
      obtain ⟨tx, htx⟩ : ∃ z, mkB (encL (byts nB) 0 99) = z := ⟨_, rfl⟩
      have HEn := Lib.hid (show ∀ w', Calls Tryz.prog 25 #[.agg #[.string ⟨#[98]⟩, .int .i64 0, .int .i64 99]] w' fun e w2 => e = .returned (.tuple #[.string tx, .int .i64 0]) ∧ Below w'.heap.size w' w2 from fun w' => by rw [← htx]; exact encode_ok nB 0 99 w' ⟨nB_ok, by omega, by omega, by omega⟩)
      have HHr := Lib.hid (fun b f w' (h : NRep w' b s f) => ahear (id := nB) (q := 99) w' h hok.pre.ok nB_ok (by omega))
      have HEv := Lib.hid (show ∀ e0 : Int, (has s.peers nB = true → newB s nB 99 = true → e0 = 0) ∧ (has s.peers nB = true → newB s nB 99 = false → e0 = 5) ∧ (has s.peers nB = false → (e0 != 0) = true) → e0 = ev from fun e0 ⟨h1, h2, _⟩ => by
        cases hn : newB s nB 99 with
        | true => rw [hn] at hev; rw [h1 hB hn, ← hev]; rfl
        | false => rw [hn] at hev; rw [h2 hB hn, ← hev]; rfl)
      rw [show ((99 : Int)).toNat = 99 from rfl, htx] at HHr
      obtain ⟨q, hq'⟩ : ∃ q, hearF s nB 99 = q := ⟨_, rfl⟩
      rw [hq'] at HHr HOk3
      clear hq hok hot bel hB hev tns htx hq' HOk HOt
      go_wp2_with fail
      refine (HEn.out wx).mono ?_
      rintro e w12 ⟨rfl, hb12⟩
      have Q0 := Lib.hid (Qx.out.below hb12)
      have B12 := Lib.hid (BX.out.trans (hb12.mono sz0))
      clear hb12 Qx
      go_wp2_with fail
      refine (HHr.out x _ w12 Q0.out.a).mono ?_
      rintro e w13 ⟨A1, c1, m1, e1, rfl, own1, rep1, hm1, hm1', kept1, hev1⟩
      obtain rfl := HEv.out e1 hev1
      have Q1 := Lib.hid (Q0.out.setA rep1 kept1 ⟨hm1, hm1'⟩ (fun x hx => hx))
      have B13 := Lib.hid (B12.out.trans ((kept1.below (B := w.heap.size) B12.out.size (fun x hx => Nat.le_trans WB.out (Q0.out.col x (by have : c x = 1 := hx; omega)).1))))
      have C1 := Lib.hid (show ∀ g, (Value.slice A1 q.2.length c1).ownBlock = some g → recol c w12.heap.size m1 1 g = 0 from fun g hg => by
        have h1 := own1.lt g hg
        rw [recol_new h1.1]; exact Q0.out.zero (by omega))
      have O1 := Lib.hid own1
      obtain ⟨c12, hc12⟩ : ∃ f, recol c w12.heap.size m1 1 = f := ⟨_, rfl⟩
      rw [hc12] at Q1 C1
      clear own1 rep1 kept1 hc12 hev1 hm1 hm1' Q0
      go_wp2_with fail
      refine (HHr.out y _ w13 Q1.out.b).mono ?_
      rintro e w14 ⟨A2, c2, m2, e2, rfl, own2, rep2, hm2, hm2', kept2, hev2⟩
      obtain rfl := HEv.out e2 hev2
      have Q2 := Lib.hid (Q1.out.setB rep2 kept2 ⟨hm2, hm2'⟩ (fun x hx => hx))
      have B14 := Lib.hid (B13.out.trans ((kept2.below (B := w.heap.size) B13.out.size (fun x hx => Nat.le_trans WB.out (Q1.out.col x (by have : c12 x = 2 := hx; omega)).1))))
      have O1 := Lib.hid (own_same (f := fun x => c12 x ≠ 2) O1.out (fun g hg => by have := C1.out g hg; omega) (kept2.same (fun x hx => hx)))
      have HEqN := Lib.hid (equalN_ok A1 A2 q.2.length c1 c2 q.2 w14 (noteRow_own O1.out rfl) (noteRow_own own2 rfl) (own_le O1.out))
      obtain ⟨c14, hc14⟩ : ∃ f, recol c12 w13.heap.size m2 2 = f := ⟨_, rfl⟩
      rw [hc14] at Q2
      clear own2 rep2 kept2 hc14 hev2 hm2 hm2' Q1 O1 C1 HEv HHr HEn
      go_wp2_with fail
      refine HEqN.out.mono ?_
      rintro e w15 ⟨rfl, hb15⟩
      have Q3 := Lib.hid (Q2.out.below hb15)
      have B15 := Lib.hid (B14.out.trans (hb15.mono B14.out.size))
      clear hb15 HEqN Q2
      obtain ⟨s3, hs3⟩ : ∃ z, q.1 = z := ⟨_, rfl⟩
      rw [hs3] at Q3 HOk3
      have HPe := Lib.hid (fun b f w' (h : NRep w' b s3 f) => npeers_ok b s3 f w' h HOk3.out)
      have HSu := Lib.hid (fun b f w' (h : NRep w' b s3 f) => nsubs_ok b s3 f w' h HOk3.out)
      have HWy := Lib.hid (fun t f w' (h : TRep w' t S f) => tway_ok w' h (by have := HOt2.out.tok.len; omega))
      have tl6 := HOk3.out.tab.len
      have HVl := Lib.hid HOk3.out.tab.vals
      obtain ⟨np, hnp⟩ : ∃ z, s3.peers.length = z := ⟨_, rfl⟩
      have sl8 := HOk3.out.subs
      obtain ⟨ns, hns⟩ : ∃ z, s3.subs.length = z := ⟨_, rfl⟩
      have wl := HOt2.out.tok.len
      obtain ⟨nw, hnw⟩ : ∃ z, S.way.length = z := ⟨_, rfl⟩
      rw [hnp] at tl6
      rw [hns] at sl8 HSu
      rw [hnw] at wl HWy
      have HN := Lib.hid (And.intro hnp (And.intro hns hnw))
      clear hs3 hnp hns hnw
      go_wp2_with fail
      refine (HPe.out x _ w15 Q3.out.a).mono ?_
      rintro e w16 ⟨AP1, n1, cp1, rfl, tab1, hb16⟩
      obtain rfl : np = n1 := by rw [← HN.out.1]; exact (tab_len tab1).symm
      have P1 := Lib.hid tab1.row
      have Q4 := Lib.hid (Q3.out.below hb16)
      have B16 := Lib.hid (B15.out.trans (hb16.mono B15.out.size))
      clear hb16 tab1 Q3
      go_wp2_with fail
      refine (HPe.out y _ w16 Q4.out.b).mono ?_
      rintro e w17 ⟨AP2, n2, cp2, rfl, tab2, hb17⟩
      obtain rfl : np = n2 := by rw [← HN.out.1]; exact (tab_len tab2).symm
      have HSame := Lib.hid (samePeers_ok AP1 AP2 np cp1 cp2 s3.peers _ _ w17 (P1.out.below hb17) tab2.row (by omega) (fun k hk => by have := HVl.out k (by rw [HN.out.1]; exact hk); omega))
      have Q5 := Lib.hid (Q4.out.below hb17)
      have B17 := Lib.hid (B16.out.trans (hb17.mono B16.out.size))
      clear hb17 tab2 Q4 P1 HPe HVl
      go_wp2_with fail
      refine HSame.out.mono ?_
      rintro e w18 ⟨rfl, hb18⟩
      have Q6 := Lib.hid (Q5.out.below hb18)
      have B18 := Lib.hid (B17.out.trans (hb18.mono B17.out.size))
      clear hb18 Q5 HSame
      go_wp2_with fail
      refine (HSu.out x _ w18 Q6.out.a).mono ?_
      rintro e w19 ⟨AS1, cs1, rfl, owns1, hb19⟩
      have S1 := Lib.hid (srow_own owns1 HN.out.2.1)
      have Q7 := Lib.hid (Q6.out.below hb19)
      have B19 := Lib.hid (B18.out.trans (hb19.mono B18.out.size))
      clear hb19 owns1 Q6
      go_wp2_with fail
      refine (HSu.out y _ w19 Q7.out.b).mono ?_
      rintro e w20 ⟨AS2, cs2, rfl, owns2, hb20⟩
      have HEs := Lib.hid (equalS_ok AS1 AS2 ns cs1 cs2 s3.subs w20 (S1.out.below hb20) (srow_own owns2 HN.out.2.1) (by omega))
      have Q8 := Lib.hid (Q7.out.below hb20)
      have B20 := Lib.hid (B19.out.trans (hb20.mono B19.out.size))
      clear hb20 owns2 Q7 S1 HSu
      go_wp2_with fail
      refine HEs.out.mono ?_
      rintro e w21 ⟨rfl, hb21⟩
      have Q9 := Lib.hid (Q8.out.below hb21)
      have B21 := Lib.hid (B20.out.trans (hb21.mono B20.out.size))
      clear hb21 Q8 HEs
      go_wp2_with fail
      refine (HWy.out t _ w21 Q9.out.t).mono ?_
      rintro e w22 ⟨AW1, cw1, rfl, ownw1, hb22⟩
      have T1 := Lib.hid (trow_own ownw1)
      have Q10 := Lib.hid (Q9.out.below hb22)
      have B22 := Lib.hid (B21.out.trans (hb22.mono B21.out.size))
      clear hb22 ownw1 Q9
      go_wp2_with fail
      refine (HWy.out u _ w22 Q10.out.u).mono ?_
      rintro e w23 ⟨AW2, cw2, rfl, ownw2, hb23⟩
      have HEt := Lib.hid (equalT_ok AW1 AW2 nw cw1 cw2 S.way w23 (T1.out.below hb23) (trow_own ownw2) (by omega))
      have B23 := Lib.hid (B22.out.trans (hb23.mono B22.out.size))
      clear hb23 ownw2 Q10 T1 HWy
      go_wp2_with fail
      refine HEt.out.mono ?_
      rintro e w24 ⟨rfl, hb24⟩
      have B24 := Lib.hid (B23.out.trans (hb24.mono B23.out.size))
      clear hb24 HEt
      go_wp2_with fail
      go_ret
      exact ⟨rfl, B24.out⟩
end Go.Proofs.YtpomdnglknbanaaGreat

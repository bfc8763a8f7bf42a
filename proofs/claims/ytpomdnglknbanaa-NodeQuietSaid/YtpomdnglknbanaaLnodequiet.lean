import Derived.Test.YtpomdnglknbanaaKq
import Derived.Test.YtpomdnglknbanaaSp
import Derived.Deep.DeepCutAuto
set_option linter.unusedSimpArgs false
set_option linter.unusedVariables false
namespace Go.Proofs.Ytpomdnglknbanaa
open Go Go.RowKit
theorem AOK.len3 {E L T : Int} {s : NSt} (h : AOK E L T s) : s.peers.length = 3 := by have := congrArg List.length h.pre.ids; simpa using this
theorem own_kept' {f : Nat → Prop} {w w' : World} {B e s n : Nat} {v : Value} {xs : List Value} (h : w.ownsRow B e s v n xs) (hf : ∀ g, v.ownBlock = some g → ¬ f g) (hk : Kept f w w') : w'.ownsRow B e s v n xs :=
  own_same (f := fun x => ¬ f x) h hf ⟨hk.size, fun x hx hfx => hk.block x hx hfx⟩
theorem Tab.keptB {f : Nat → Prop} {w w' : World} {base n c : Nat} {A : Option Addr} {L : List Peer} (h : Tab w base A n c L) (hf : ∀ g, base ≤ g → g < w.heap.size → ¬ f g) (hk : Kept f w w') : Tab w' base A n c L := by
  obtain ⟨xs, h1, h2⟩ := h
  exact ⟨xs, own_kept' h1 (fun g hg => hf g (h1.lt g hg).1 (h1.lt g hg).2) hk, h2.kept (fun v n ys ho => own_kept' ho (fun g hg => hf g (ho.lt g hg).1 (ho.lt g hg).2) hk)⟩
theorem PV.zero {w : World} {base : Nat} {p : Peer} {u : List Value} (h : PV w base p u) : PV w base { p with drops := 0 } (u.set 3 (.int .i64 0)) := by
  obtain ⟨v, rfl, h2⟩ := h
  exact ⟨v, rfl, h2⟩
set_option maxRecDepth 100000 in
set_option maxHeartbeats 16000000 in
theorem nodeQuiet_walk (e0 l0 : Int) (a : Option Addr) (len cap : Nat) (Z : List (List Int)) (x : ByteArray) (w : World) (_ : (Lit.int .i64 e0).wf = true) (_ : (Lit.int .i64 l0).wf = true) (hr : IsRows w a len Z) (hc : len ≤ cap ∧ cap ≤ maxLen) (hsz : x.size ≤ maxLen) :
    Calls Try.prog 16 #[.int .i64 e0, .int .i64 l0, .slice a len cap, .string x] w fun e w' => e = .returned (.bool true) ∧ Below w.heap.size w w' := by
  have HSz := Lib.hid hsz
  clear hsz
  obtain ⟨hcp, hmx⟩ := hc
  unfold maxLen at hmx
  obtain ⟨n, hn⟩ : ∃ n : Nat, min len 40 = n := ⟨_, rfl⟩
  have hmin : min (len : Int) 40 = (n : Int) := by omega
  have hnl : n ≤ len := by omega
  have nl' : (n : Int) ≤ len := by omega
  have nc' : (n : Int) ≤ cap := by omega
  have hn80 : n ≤ 40 := by omega
  obtain ⟨E, hE⟩ : ∃ E, within e0 50 = E - 1 := ⟨within e0 50 + 1, by omega⟩
  obtain ⟨L, hL⟩ : ∃ L, within l0 20 = L - 1 := ⟨within l0 20 + 1, by omega⟩
  have b1 := within_bd e0 (n := 50) (by omega)
  have b2 := within_bd l0 (n := 20) (by omega)
  have HOne := Lib.hid (fun w' => one_ok e0 l0 E L w' hE hL)
  have HOk := Lib.hid (oneS_ok (E := E) (L := L) ⟨by omega, by omega⟩ ⟨by omega, by omega⟩)
  have HEL := Lib.hid (show (1 ≤ E ∧ E ≤ 50) ∧ (1 ≤ L ∧ L ≤ 20) by omega)
  have HR := Lib.hid hr
  have HB := Lib.hid (fun w' => nbegun_ok w')
  clear hr hn hE hL b1 b2
  go_enter Try.func16, Try.ntmps16
  go_wp2_with fail
  refine (HB.out w).mono ?_
  rintro e w1 ⟨rfl, hb1⟩
  have HB1 := Lib.hid hb1
  have z1 := hb1.size
  clear hb1
  go_wp2_with fail
  refine (HOne.out w1).mono ?_
  rintro e w2 ⟨b, f0, rfl, rep2, hf2, hb2⟩
  have R2 := Lib.hid rep2
  have HF2 := Lib.hid (fun x hx => Nat.le_trans z1 (hf2 x hx))
  have HB2 := Lib.hid (HB1.out.trans (hb2.mono z1))
  clear rep2 hf2 hb2
  go_wp2_with fail
  go_loopw [32] (fun i wr => ∃ (k : Nat) (s : NSt) (f : Nat → Prop), k ≤ n ∧ i = .int .i64 k ∧ NRep wr b s f ∧ AOK E L (60 * k) s ∧ (∀ x, f x → w.heap.size ≤ x) ∧ Below w.heap.size w wr) (fun i _ => n - (intOf i).toNat)
  case atStart => exact ⟨0, _, f0, Nat.zero_le _, rfl, R2.out, HOk.out, HF2.out, HB2.out⟩
  case round =>
    obtain ⟨k, s, f, hk, rfl, hrep, hok, hf, bel⟩ := hrel
    have sz0 := bel.size
    by_cases hlt : k < n
    · obtain ⟨rb, off, A, C, rfl, rc, hin⟩ := rows_at HR.out (show k < len by omega) bel
      obtain ⟨l, hl⟩ : ∃ l, Z.getD k [] = l := ⟨_, rfl⟩
      rw [hl] at rc hin
      obtain ⟨m, hm⟩ : ∃ m, l.length = m := ⟨_, rfl⟩
      rw [hm] at rc hin
      have kw : IntKind.i64.wrap ((k : Int) + 1) = (k : Int) + 1 := IntWalk.i64_in _ (by omega)
      have HIn := Lib.hid hin
      have HAs := Lib.hid (fun w' (h : NRep w' b s f) hi => asked_ok b s f m C A l w' h hok (by omega) hi)
      have HOk2 := Lib.hid (askL_ok hok (by omega) l)
      rw [show (60 : Int) * k + 60 = 60 * ((k + 1 : Nat) : Int) by omega] at HOk2
      have HAk := Lib.hid (askL_ask s l)
      have HOk1 := Lib.hid hok
      obtain ⟨N, hN⟩ : ∃ N, (askL s l).2 = N := ⟨_, rfl⟩
      obtain ⟨s', hs'⟩ : ∃ s', (askL s l).1 = s' := ⟨_, rfl⟩
      rw [hN, hs'] at HAs HAk
      rw [hs'] at HOk2
      have HRep := Lib.hid hrep
      have HF := Lib.hid hf
      have HBe := Lib.hid bel
      have HL := Lib.hid hm
      clear hl hm hin hok hN hs' hrep hf bel
      go_wp2_with fail
      refine (HAs.out wr HRep.out HIn.out).mono ?_
      rintro e w4 ⟨A', c', mm, rfl, own, rep, hmm, hmm2, kept⟩
      have OW4 := Lib.hid own
      have R4 := Lib.hid rep
      have B4 := Lib.hid (HBe.out.trans (kept.below (by omega) HF.out))
      have F4 := Lib.hid (fun x (hx : ext f wr.heap.size mm x) => (show w.heap.size ≤ x from hx.elim (HF.out x) (fun h => by omega)))
      have z4 := kept.size
      have pb := own_le own
      obtain ⟨p, hp⟩ : ∃ p, N.length = p := ⟨_, rfl⟩
      have HP := Lib.hid hp
      rw [hp] at OW4 pb ⊢
      obtain ⟨f4, hf4⟩ : ∃ g, ext f wr.heap.size mm = g := ⟨_, rfl⟩
      rw [hf4] at R4 F4
      clear own rep kept hp hf4
      go_wp2_with fail
      go_roundw
      case rel => first | exact ⟨k + 1, s', f4, by omega, by go_num, R4.out, HOk2.out, F4.out, B4.out⟩ | ((repeat apply Exists.intro); exact ⟨⟨k + 1, s', f4, by omega, by go_num, R4.out, HOk2.out, F4.out, B4.out⟩, rfl⟩)
      case measure => simp [intOf]; omega
    · obtain rfl : n = k := by omega
      have HRep := Lib.hid hrep
      have HOk1 := Lib.hid hok
      have HF := Lib.hid hf
      have HBe := Lib.hid bel
      clear hrep hok hf bel
      go_wp2_with fail
      have hl3 := HOk1.out.len3
      have hv3 := Lib.hid (HOk1.out.pre.ok.tab.vals)
      have dr := HOk1.out.pre.drops
      have dr0 := HOk1.out.pre.ok.drops
      have h8 := HOk1.out.pre.ok.subs
      refine (npeers_ok b s f wr HRep.out HOk1.out.pre.ok).mono ?_
      rintro e w3 ⟨A3, n3, c3, rfl, T3, hb3⟩
      have hn3 := T3.row.1
      rw [hl3] at hn3
      subst hn3
      have z3 := hb3.size
      have HT3 := Lib.hid T3
      have R3 := Lib.hid (HRep.out.below hb3)
      have B3 := Lib.hid (HBe.out.trans (hb3.mono sz0))
      clear T3 hb3
      go_wp2_with fail
      refine (nsubs_ok b s f w3 R3.out HOk1.out.pre.ok).mono ?_
      rintro e w4 ⟨A4, c4, rfl, own4, hb4⟩
      have z4 := hb4.size
      have HT4 := Lib.hid (HT3.out.below hb4)
      have R4 := Lib.hid (R3.out.below hb4)
      have B4 := Lib.hid (B3.out.trans (hb4.mono (by omega)))
      have O4 := Lib.hid own4
      obtain ⟨q, hq⟩ : ∃ q, s.subs.length = q := ⟨_, rfl⟩
      rw [hq] at O4 h8 ⊢
      have HQ := Lib.hid hq
      obtain ⟨P4, S4, nd⟩ := R4.out.at'
      have HNow := Lib.hid (now_ok w4 nd)
      have HSeq := Lib.hid (seq_ok w4 nd)
      have HDr := Lib.hid (drops_ok w4 nd)
      obtain ⟨nw, hnw⟩ : ∃ v, s.now = v := ⟨_, rfl⟩
      obtain ⟨sq, hsq⟩ : ∃ v, s.seq = v := ⟨_, rfl⟩
      obtain ⟨dd, hdd⟩ : ∃ v, s.drops = v := ⟨_, rfl⟩
      rw [hnw] at HNow
      rw [hsq] at HSeq
      rw [hdd] at HDr dr dr0
      have HN := Lib.hid (And.intro hnw (And.intro hsq hdd))
      clear own4 hb4 hq nd hnw hsq hdd
      go_wp2_with fail
      refine HNow.out.mono ?_
      rintro e w' ⟨rfl, rfl⟩
      go_wp2_with fail
      refine HSeq.out.mono ?_
      rintro e w' ⟨rfl, rfl⟩
      go_wp2_with fail
      refine HDr.out.mono ?_
      rintro e w' ⟨rfl, rfl⟩
      go_wp2_with fail
      refine (quiet_ok b s f x w4 R4.out HOk1.out.pre.ok HSz.out).mono ?_
      rintro e w5 ⟨A5, n5, c5, x5, t, g5, rfl, rep5, okt, hg5, k5, hcase⟩
      have z5 := k5.size
      have R5 := Lib.hid rep5
      have G5 := Lib.hid (fun y hy => (show w.heap.size ≤ y from (hg5 y hy).elim (HF.out y) (fun h => by omega)))
      have B5 := Lib.hid (B4.out.trans (k5.below (by omega) HF.out))
      have HFl := HRep.out.lt
      have HT5 := Lib.hid (HT4.out.keptB (fun g h1 _ hfg => by have := HFl g hfg; omega) k5)
      have O5 := Lib.hid (own_kept' O4.out (fun g hg hfg => by have := (O4.out.lt g hg).1; have := HFl g hfg; omega) k5)
      have HOt := Lib.hid okt
      clear rep5 okt hg5 k5 HFl
      rcases hcase with ⟨rfl, hd⟩ | ⟨hne, rfl, hqt⟩
      · obtain ⟨P5, S5, nd⟩ := R5.out.at'
        rw [hd, HN.out.2.2] at nd
        have HDr5 := Lib.hid (drops_ok w5 nd)
        clear nd hd
        go_wp2_with fail
        refine HDr5.out.mono ?_
        rintro e w' ⟨rfl, rfl⟩
        go_wp2_with fail
        go_ret
        exact ⟨rfl, B5.out⟩
      · obtain ⟨q1, q2, q3, q4, q5, q6⟩ := hqt
        have vd : IntKind.i64.wrap (dd + 1) = dd + 1 := IntWalk.i64_in _ (by omega)
        have q4' : t.drops = dd + 1 := by rw [q4, HN.out.2.2]; unfold more; omega
        obtain ⟨P5, S5, nd⟩ := R5.out.at'
        rw [q1, q2, q4', HN.out.1, HN.out.2.1] at nd
        have HNow5 := Lib.hid (now_ok w5 nd)
        have HSeq5 := Lib.hid (seq_ok w5 nd)
        have HDr5 := Lib.hid (drops_ok w5 nd)
        have HS5 := Lib.hid (nsubs_ok b t g5 w5 R5.out HOt.out)
        rw [q3, HQ.out] at HS5
        have HPt := Lib.hid (fun w' (h : NRep w' b t g5) => npeers_ok b t g5 w' h HOt.out)
        have HQ6 := Lib.hid q6
        have tl3 := q5.trans hl3
        have HTv := Lib.hid (HOt.out.tab.vals)
        clear nd q1 q2 q3 q4 q4' q5 q6
        go_wp2_with fail
        refine HDr5.out.mono ?_
        rintro e w' ⟨rfl, rfl⟩
        go_wp2_with fail
        refine HNow5.out.mono ?_
        rintro e w' ⟨rfl, rfl⟩
        go_wp2_with fail
        refine HSeq5.out.mono ?_
        rintro e w' ⟨rfl, rfl⟩
        go_wp2_with fail
        refine HS5.out.mono ?_
        rintro e w6 ⟨A6, c6, rfl, own6, hb6⟩
        have z6 := hb6.size
        have SA := Lib.hid (srow_own own6 HQ.out)
        have SB := Lib.hid (srow_own (own_below O5.out hb6) HQ.out)
        have HT6 := Lib.hid (HT5.out.below hb6)
        have R6 := Lib.hid (R5.out.below hb6)
        have B6 := Lib.hid (B5.out.trans (hb6.mono B5.out.size))
        clear own6 hb6
        go_wp2_with fail
        refine (equalS_ok A6 A4 q c6 c4 s.subs w6 SA.out SB.out (by omega)).mono ?_
        rintro e w7 ⟨rfl, hb7⟩
        have z7 := hb7.size
        have HT7 := Lib.hid (HT6.out.below hb7)
        have R7 := Lib.hid (R6.out.below hb7)
        have B7 := Lib.hid (B6.out.trans (hb7.mono B6.out.size))
        clear hb7
        go_wp2_with fail
        refine (HPt.out w7 R7.out).mono ?_
        rintro e w8 ⟨A8, n8, c8, rfl, T8, hb8⟩
        have hn8 := T8.row.1
        rw [tl3] at hn8
        subst hn8
        have z8 := hb8.size
        have HT8 := Lib.hid (HT7.out.below hb8)
        have R8 := Lib.hid (R7.out.below hb8)
        have B8 := Lib.hid (B7.out.trans (hb8.mono B7.out.size))
        clear hb8 T8
        go_wp2_with fail
        refine (HPt.out w8 R8.out).mono ?_
        rintro e w9 ⟨A9, n9, c9, rfl, T9, hb9⟩
        have hn9 := T9.row.1
        rw [tl3] at hn9
        subst hn9
        have z9 := hb9.size
        have HT9 := Lib.hid (HT8.out.below hb9)
        have PR := Lib.hid (T9.row)
        have B9 := Lib.hid (B8.out.trans (hb9.mono B8.out.size))
        have zb : w.heap.size ≤ wr.heap.size := sz0
        have z39 : wr.heap.size ≤ w8.heap.size := by omega
        clear hb9 T9
        have qa := alloc_cells
        have qf := alloc_frozens
        go_wp2_with fail
        obtain ⟨bs, hbs⟩ : ∃ bs, wr.heap.size = bs := ⟨_, rfl⟩
        rw [hbs] at HT8 HT9 z39 zb
        clear HBe HRep HT3 HT4 HT5 HT6 HT7 O4 O5
        go_loopw [102] (fun i wy => ∃ (j : Nat) (M : List Peer), j ≤ 3 ∧ i = .int .i64 j ∧ Tab wy bs A3 3 c3 M ∧ M.length = 3 ∧ (∀ k, j ≤ k → M.getD k default = s.peers.getD k default) ∧ PRow wy A9 3 t.peers (fun y => w8.heap.size ≤ y ∧ y < w9.heap.size) ∧ (∀ g, (Value.slice A3 3 c3).ownBlock = some g → g < w8.heap.size) ∧ Below w.heap.size w wy ∧ w9.heap.size ≤ wy.heap.size) (fun i _ => 3 - (intOf i).toNat)
        case atStart => exact ⟨0, s.peers, Nat.zero_le _, rfl, HT9.out, hl3, fun _ _ => rfl, PR.out, fun g hg => (HT8.out.lt g hg).2, B9.out, Nat.le_refl _⟩
        case round =>
          obtain ⟨wy, rfl⟩ : ∃ z : World, z = wr := ⟨_, rfl⟩
          obtain ⟨j, M, hj, rfl, hT, hM3, hMk, hP, hgl, belx, hz9⟩ := hrel
          have szx := belx.size
          by_cases hj3 : j < 3
          · obtain ⟨g, X1, u, X2, rfl, TF, V1, VU, V2⟩ := hT.focus (P := j) (by omega)
            rw [hMk j (Nat.le_refl _)] at VU
            obtain ⟨bp, op, rfl, lp, ⟨fb1, fb2⟩, p0, p1, p2, p3, p4, p6, Bv, cv, p5, inv, fbv⟩ := hP.at hj3
            obtain ⟨P, hPe⟩ : ∃ P, t.peers.getD j default = P := ⟨_, rfl⟩
            obtain ⟨R, hRe⟩ : ∃ P, s.peers.getD j default = P := ⟨_, rfl⟩
            have hz := HQ6.out j (by omega)
            have hv64 := HTv.out j (by omega)
            rw [hPe] at p0 p1 p2 p3 p4 p5 p6 inv hz hv64
            rw [hRe] at VU hz
            have g0 := hgl g rfl
            have hgb := TF.lt
            have hfz := TF.frozen
            obtain ⟨v, rfl, hv⟩ := VU
            have i0 : R.id = P.id := (congrArg Peer.id hz).symm
            have i1 : R.inc = P.inc := (congrArg Peer.inc hz).symm
            have i2 : R.seq = P.seq := (congrArg Peer.seq hz).symm
            have i4 : R.cap = P.cap := (congrArg Peer.cap hz).symm
            have i5 : R.vals = P.vals := (congrArg Peer.vals hz).symm
            have i6 : R.last = P.last := (congrArg Peer.last hz).symm
            rw [i0, i1, i2, i4, i6] at TF
            rw [i5] at hv
            obtain ⟨Av, cv2, rfl, inv2, _⟩ := own_inRow hv
            obtain ⟨q0, h0⟩ : ∃ x, P.id = x := ⟨_, rfl⟩
            obtain ⟨q1, h1⟩ : ∃ x, P.inc = x := ⟨_, rfl⟩
            obtain ⟨q2, h2⟩ : ∃ x, P.seq = x := ⟨_, rfl⟩
            obtain ⟨q3, h3⟩ : ∃ x, P.drops = x := ⟨_, rfl⟩
            obtain ⟨q4', h4⟩ : ∃ x, P.cap = x := ⟨_, rfl⟩
            obtain ⟨V, h5⟩ : ∃ x, P.vals = x := ⟨_, rfl⟩
            obtain ⟨q6, h6⟩ : ∃ x, P.last = x := ⟨_, rfl⟩
            obtain ⟨r3, hr3⟩ : ∃ x, R.drops = x := ⟨_, rfl⟩
            rw [h0] at p0 TF; rw [h1] at p1 TF; rw [h2] at p2 TF; rw [h3] at p3; rw [h4] at p4 TF; rw [h5] at p5 inv inv2 hv hv64 TF; rw [h6] at p6 TF; rw [hr3] at TF
            obtain ⟨vl, hvl⟩ : ∃ x, V.length = x := ⟨_, rfl⟩
            rw [hvl] at p5 inv inv2 hv64 TF
            have c3' := TF.cell (i := 3) rfl
            have jw : IntKind.i64.wrap ((j : Int) + 1) = (j : Int) + 1 := IntWalk.i64_in _ (by omega)
            have hj3' : (j : Int) < 3 := by omega
            have HTF := Lib.hid TF
            have HV := Lib.hid (And.intro V1 V2)
            have HMk := Lib.hid hMk
            have HRr := Lib.hid hRe
            have HBx := Lib.hid belx
            have HPr := Lib.hid hP
            have HIn := Lib.hid (And.intro inv inv2)
            have HEq := Lib.hid (And.intro hz (And.intro h5 hvl))
            have HFb := Lib.hid fbv
            have HHv := Lib.hid hv
            have fz : wy.frozen? ⟨g, j * 7 + 3, none⟩ = false := hfz _
            have gl : g < wy.heap.size := hgb.1
            have hne : g ≠ wy.heap.size := by omega
            clear hPe hRe hz TF V1 V2 i0 i1 i2 i4 i5 i6 h0 h1 h2 h3 h4 h5 h6 hr3 hvl inv inv2 hT hMk hP hgl belx hfz fbv hv
            go_upto_region 19 with fail
            have eo : j * 7 + 1 + 2 = j * 7 + 3 := rfl
            have ab : Below (wy.setCell ⟨g, j * 7 + 3, none⟩ (.int .i64 0)).heap.size (wy.setCell ⟨g, j * 7 + 3, none⟩ (.int .i64 0)) ((wy.setCell ⟨g, j * 7 + 3, none⟩ (.int .i64 0)).alloc (.cells #[.string q0, .int .i64 q1, .int .i64 q2, .int .i64 0, .int .i64 q4', .slice Bv vl cv, .int .i64 q6] 56)) := (Below.refl _ _).alloc (Nat.le_refl _) _
            have TF2 := (HTF.out.set 3 (by omega) (.int .i64 0)).below ab
            have V1 := (HV.out.1.kept (fun v n ys ho => own_tset HTF.out ho (j * 7 + 3) (.int .i64 0))).below ab
            have V2 := (HV.out.2.kept (fun v n ys ho => own_tset HTF.out ho (j * 7 + 3) (.int .i64 0))).below ab
            have hv2 := own_below (own_tset HTF.out HHv.out (j * 7 + 3) (.int .i64 0)) ab
            rw [HEq.out.2.2] at hv2
            have VU : PV ((wy.setCell ⟨g, j * 7 + 3, none⟩ (.int .i64 0)).alloc (.cells #[.string q0, .int .i64 q1, .int .i64 q2, .int .i64 0, .int .i64 q4', .slice Bv vl cv, .int .i64 q6] 56)) bs ⟨q0, q1, q2, 0, q4', V, q6⟩ ([.string q0, .int .i64 q1, .int .i64 q2, .int .i64 r3, .int .i64 q4', .slice Av vl cv2, .int .i64 q6].set 3 (.int .i64 0)) := ⟨.slice Av vl cv2, rfl, by show World.ownsRow _ _ _ _ _ V.length _; rw [HEq.out.2.2]; exact hv2⟩
            have sm : Same (fun y => w8.heap.size ≤ y ∧ y < w9.heap.size) wy ((wy.setCell ⟨g, j * 7 + 3, none⟩ (.int .i64 0)).alloc (.cells #[.string q0, .int .i64 q1, .int .i64 q2, .int .i64 0, .int .i64 q4', .slice Bv vl cv, .int .i64 q6] 56)) := ⟨by simp, fun y hy hfy => (ab.block y (by simpa using hy)).trans (Below.heap_setCell _ _ _ _ (fun e => by have : g < w8.heap.size := g0; have h1 : y = g := e; omega))⟩
            have P2 := Lib.hid (HPr.out.same sm)
            have HRb := Lib.hid ((HIn.out.1.same (f := fun y => w8.heap.size ≤ y ∧ y < w9.heap.size) (fun g off e => HFb.out g off e) sm).1)
            have HRa := Lib.hid (show Row ((wy.setCell ⟨g, j * 7 + 3, none⟩ (.int .i64 0)).alloc (.cells #[.string q0, .int .i64 q1, .int .i64 q2, .int .i64 0, .int .i64 q4', .slice Bv vl cv, .int .i64 q6] 56)) Av vl V from by
              have := HEq.out.2.2 ▸ hv2
              obtain ⟨A', c', e, hin, _⟩ := own_inRow hv2
              simp only [Value.slice.injEq, true_and] at e
              rw [e.1]
              exact hin.1)
            have TB := Lib.hid (Tab.unfocus TF2 V1 VU V2 (by omega))
            have BZ := Lib.hid ((HBx.out.setCell (p := ⟨g, j * 7 + 3, none⟩) (by show w.heap.size ≤ g; have := hgb.2; omega) (.int .i64 0)).alloc (by simp; omega) (.cells #[.string q0, .int .i64 q1, .int .i64 q2, .int .i64 0, .int .i64 q4', .slice Bv vl cv, .int .i64 q6] 56))
            have zz : ((wy.setCell ⟨g, j * 7 + 3, none⟩ (.int .i64 0)).alloc (.cells #[.string q0, .int .i64 q1, .int .i64 q2, .int .i64 0, .int .i64 q4', .slice Bv vl cv, .int .i64 q6] 56)).heap.size = wy.heap.size + 1 := by simp
            have x0 : ((wy.setCell ⟨g, j * 7 + 3, none⟩ (.int .i64 0)).alloc (.cells #[.string q0, .int .i64 q1, .int .i64 q2, .int .i64 0, .int .i64 q4', .slice Bv vl cv, .int .i64 q6] 56)).cell? ⟨wy.heap.size, 0, none⟩ = some (.string q0) := by simp [qa]
            have x1 : ((wy.setCell ⟨g, j * 7 + 3, none⟩ (.int .i64 0)).alloc (.cells #[.string q0, .int .i64 q1, .int .i64 q2, .int .i64 0, .int .i64 q4', .slice Bv vl cv, .int .i64 q6] 56)).cell? ⟨wy.heap.size, 1, none⟩ = some (.int .i64 q1) := by simp [qa]
            have x2 : ((wy.setCell ⟨g, j * 7 + 3, none⟩ (.int .i64 0)).alloc (.cells #[.string q0, .int .i64 q1, .int .i64 q2, .int .i64 0, .int .i64 q4', .slice Bv vl cv, .int .i64 q6] 56)).cell? ⟨wy.heap.size, 2, none⟩ = some (.int .i64 q2) := by simp [qa]
            have x3 : ((wy.setCell ⟨g, j * 7 + 3, none⟩ (.int .i64 0)).alloc (.cells #[.string q0, .int .i64 q1, .int .i64 q2, .int .i64 0, .int .i64 q4', .slice Bv vl cv, .int .i64 q6] 56)).cell? ⟨wy.heap.size, 3, none⟩ = some (.int .i64 0) := by simp [qa]
            have x4 : ((wy.setCell ⟨g, j * 7 + 3, none⟩ (.int .i64 0)).alloc (.cells #[.string q0, .int .i64 q1, .int .i64 q2, .int .i64 0, .int .i64 q4', .slice Bv vl cv, .int .i64 q6] 56)).cell? ⟨wy.heap.size, 4, none⟩ = some (.int .i64 q4') := by simp [qa]
            have x5 : ((wy.setCell ⟨g, j * 7 + 3, none⟩ (.int .i64 0)).alloc (.cells #[.string q0, .int .i64 q1, .int .i64 q2, .int .i64 0, .int .i64 q4', .slice Bv vl cv, .int .i64 q6] 56)).cell? ⟨wy.heap.size, 5, none⟩ = some (.slice Bv vl cv) := by simp [qa]
            have x6 : ((wy.setCell ⟨g, j * 7 + 3, none⟩ (.int .i64 0)).alloc (.cells #[.string q0, .int .i64 q1, .int .i64 q2, .int .i64 0, .int .i64 q4', .slice Bv vl cv, .int .i64 q6] 56)).cell? ⟨wy.heap.size, 6, none⟩ = some (.int .i64 q6) := by simp [qa]
            have y0 : ((wy.setCell ⟨g, j * 7 + 3, none⟩ (.int .i64 0)).alloc (.cells #[.string q0, .int .i64 q1, .int .i64 q2, .int .i64 0, .int .i64 q4', .slice Bv vl cv, .int .i64 q6] 56)).cell? ⟨g, j * 7, none⟩ = some (.string q0) := TF2.cell (i := 0) rfl
            have y1 : ((wy.setCell ⟨g, j * 7 + 3, none⟩ (.int .i64 0)).alloc (.cells #[.string q0, .int .i64 q1, .int .i64 q2, .int .i64 0, .int .i64 q4', .slice Bv vl cv, .int .i64 q6] 56)).cell? ⟨g, j * 7 + 1, none⟩ = some (.int .i64 q1) := TF2.cell (i := 1) rfl
            have y2 : ((wy.setCell ⟨g, j * 7 + 3, none⟩ (.int .i64 0)).alloc (.cells #[.string q0, .int .i64 q1, .int .i64 q2, .int .i64 0, .int .i64 q4', .slice Bv vl cv, .int .i64 q6] 56)).cell? ⟨g, j * 7 + 2, none⟩ = some (.int .i64 q2) := TF2.cell (i := 2) rfl
            have y3 : ((wy.setCell ⟨g, j * 7 + 3, none⟩ (.int .i64 0)).alloc (.cells #[.string q0, .int .i64 q1, .int .i64 q2, .int .i64 0, .int .i64 q4', .slice Bv vl cv, .int .i64 q6] 56)).cell? ⟨g, j * 7 + 3, none⟩ = some (.int .i64 0) := TF2.cell (i := 3) rfl
            have y4 : ((wy.setCell ⟨g, j * 7 + 3, none⟩ (.int .i64 0)).alloc (.cells #[.string q0, .int .i64 q1, .int .i64 q2, .int .i64 0, .int .i64 q4', .slice Bv vl cv, .int .i64 q6] 56)).cell? ⟨g, j * 7 + 4, none⟩ = some (.int .i64 q4') := TF2.cell (i := 4) rfl
            have y5 : ((wy.setCell ⟨g, j * 7 + 3, none⟩ (.int .i64 0)).alloc (.cells #[.string q0, .int .i64 q1, .int .i64 q2, .int .i64 0, .int .i64 q4', .slice Bv vl cv, .int .i64 q6] 56)).cell? ⟨g, j * 7 + 5, none⟩ = some (.slice Av vl cv2) := TF2.cell (i := 5) rfl
            have y6 : ((wy.setCell ⟨g, j * 7 + 3, none⟩ (.int .i64 0)).alloc (.cells #[.string q0, .int .i64 q1, .int .i64 q2, .int .i64 0, .int .i64 q4', .slice Bv vl cv, .int .i64 q6] 56)).cell? ⟨g, j * 7 + 6, none⟩ = some (.int .i64 q6) := TF2.cell (i := 6) rfl
            have gz := TF2.lt.1
            rw [eo]
            clear TF2 V1 V2 VU hv2 sm ab p0 p1 p2 p3 p4 p5 p6 lp c3' fz eo
            generalize (wy.setCell ⟨g, j * 7 + 3, none⟩ (.int .i64 0)).alloc (.cells #[.string q0, .int .i64 q1, .int .i64 q2, .int .i64 0, .int .i64 q4', .slice Bv vl cv, .int .i64 q6] 56) = wz at *
            obtain ⟨bx, hbx⟩ : ∃ x, wy.heap.size = x := ⟨_, rfl⟩
            rw [hbx] at x0 x1 x2 x3 x4 x5 x6 zz hne ⊢
            have hxz : bx < wz.heap.size := by omega
            have hz9' : w9.heap.size ≤ wz.heap.size := by omega
            clear hbx zz
            refine wp_region_quiet_all (Ext _) (by kernel_rfl) (by kernel_rfl) (Ext.drawn _) ?_
            repeat (first | go_big_quiet_skip | go_big_quiet_step (fail) | (refine BigFrame.wpQuiet_want rfl (fun K hK => ?_); apply Exists.intro; refine ⟨fun w2 h2 => ?_, ?_⟩; (next => (have g1 := Below.cells h2.below; have g2 := Below.frozens h2.below; (try simp only [World.size_alloc, World.size_setCell] at g1 g2); first | (go_simp; (go_at_call 43; refine h2.calls (samePeer_ok q0 q1 q2 0 q4' q6 Bv Av vl cv cv2 V _ (HRb.out.below h2.below) (HRa.out.below h2.below) (by omega)))) | (simp [go_sem, ↓IntWalk.iteOmega, *]; done) | (simp [go_sem, ↓IntWalk.iteOmega, *]; rfl)))); (go_simp; refine hK _ ?_; clear hK K))
            refine wpQuiet_nil ?_
            intro w20 h20
            have hb20 := h20.below
            clear h20
            have z20 := hb20.size
            have c20 := Below.cells hb20
            have f20 := Below.frozens hb20
            try simp only [World.size_alloc, World.size_setCell, World.size_drew] at z20 c20 f20
            go_wp2_with fail
            go_roundw
            case rel =>
              refine ⟨j + 1, M.set j ⟨q0, q1, q2, 0, q4', V, q6⟩, by omega, by go_num, TB.out.below hb20, by simp [hM3], fun k hk => ?_, P2.out.below hb20, fun g' hg' => ?_, BZ.out.trans (hb20.mono BZ.out.size), by have := hb20.size; omega⟩
              · rw [List.getD_eq_getElem?_getD, List.getElem?_set_ne (by omega), ← List.getD_eq_getElem?_getD]
                exact HMk.out k (by omega)
              · simp only [Value.ownBlock, Option.some.injEq] at hg'
                omega
            case measure => simp [intOf]; omega
          · obtain rfl : j = 3 := by omega
            have HBx := Lib.hid belx
            clear hT hMk hP hgl belx
            go_wp2_with fail
            go_ret
            exact ⟨rfl, HBx.out⟩
end Go.Proofs.Ytpomdnglknbanaa

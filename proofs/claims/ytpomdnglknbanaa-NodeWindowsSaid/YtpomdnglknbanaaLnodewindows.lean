import Derived.Test.YtpomdnglknbanaaKt
set_option linter.unusedSimpArgs false
set_option linter.unusedVariables false
namespace Go.Proofs.Ytpomdnglknbanaa
open Go Go.RowKit
theorem now_below {b : Nat} {id : ByteArray} {inc every cap least now seq drops : Int} {P S : Value} (w : World) (h : NodeAt w b id inc every cap least now seq drops P S) :
    Calls Try.prog 52 #[.pointer (some ⟨b, 0, none⟩)] w fun e w' => e = .returned (.int .i64 now) ∧ Below w.heap.size w w' :=
  (now_ok w h).mono fun _ _ ⟨he, hw⟩ => ⟨he, hw ▸ Below.refl _ _⟩
theorem nsum_below (A : Option Addr) (n c : Nat) (l : List Int) (S : Int) (w : World) (hr : Row w A n l) (hm : n ≤ 64) (hb : Btw 0 16777216 l) (hS : sumI l = S) :
    Calls Try.prog 62 #[.slice A n c] w fun e w' => e = .returned (.int .i64 S) ∧ Below w.heap.size w w' :=
  (nsum_ok A n c l S w hr hm hb hS).mono fun _ _ ⟨he, hw⟩ => ⟨he, hw ▸ Below.refl _ _⟩
theorem AOK.len3 {E L T : Int} {s : NSt} (h : AOK E L T s) : s.peers.length = 3 := by have := congrArg List.length h.pre.ids; simpa using this
theorem AOK.peer {E L T : Int} {s : NSt} (h : AOK E L T s) {k : Nat} (hk : k < 3) : PeerOK (s.peers.getD k default) ∧ 1 ≤ (s.peers.getD k default).vals.length ∧ (s.peers.getD k default).vals.length ≤ 4 ∧ (s.peers.getD k default).last ≤ s.now ∧ 0 ≤ sumI (s.peers.getD k default).vals := by
  have hl := h.len3
  obtain ⟨h1, h2, h3⟩ := h.pre.ok.at (k := k) (by omega)
  have h4 := (h.pre.each _ (getD_mem (d := default) (show k < s.peers.length by omega))).2
  have h5 := h1.win.2.2.1
  rw [h4] at h5
  exact ⟨h1, h2, by omega, h3, by have := sumI_bd h1.win.2.2.2; omega⟩
set_option maxRecDepth 100000 in
set_option maxHeartbeats 16000000 in
theorem nodeWindows_walk (e0 l0 : Int) (a : Option Addr) (len cap : Nat) (Z : List (List Int)) (w : World) (_ : (Lit.int .i64 e0).wf = true) (_ : (Lit.int .i64 l0).wf = true) (hr : IsRows w a len Z) (hc : len ≤ cap ∧ cap ≤ maxLen) :
    Calls Try.prog 14 #[.int .i64 e0, .int .i64 l0, .slice a len cap] w fun e w' => e = .returned (.bool true) ∧ Below w.heap.size w w' := by
  obtain ⟨hcp, hmx⟩ := hc
  unfold maxLen at hmx
  obtain ⟨n, hn⟩ : ∃ n : Nat, min len 80 = n := ⟨_, rfl⟩
  have hmin : min (len : Int) 80 = (n : Int) := by omega
  have hnl : n ≤ len := by omega
  have nl' : (n : Int) ≤ len := by omega
  have nc' : (n : Int) ≤ cap := by omega
  have hn80 : n ≤ 80 := by omega
  obtain ⟨E, hE⟩ : ∃ E, within e0 50 = E - 1 := ⟨within e0 50 + 1, by omega⟩
  obtain ⟨L, hL⟩ : ∃ L, within l0 20 = L - 1 := ⟨within l0 20 + 1, by omega⟩
  have b1 := within_bd e0 (n := 50) (by omega)
  have b2 := within_bd l0 (n := 20) (by omega)
  have HOne := Lib.hid (fun w' => one_ok e0 l0 E L w' hE hL)
  have HOk := Lib.hid (oneS_ok (E := E) (L := L) ⟨by omega, by omega⟩ ⟨by omega, by omega⟩)
  have HEL := Lib.hid (show (1 ≤ E ∧ E ≤ 50) ∧ (1 ≤ L ∧ L ≤ 20) by omega)
  have HR := Lib.hid hr
  have HB := Lib.hid (fun w' => nbegun_ok w')
  clear hr hn hE hL b1 b2
  go_enter Try.func14, Try.ntmps14
  go_wp2_with fail
  refine (HB.out w).mono ?_
  rintro e w1 ⟨rfl, hb1⟩
  have HB1 := Lib.hid hb1
  have z1 := hb1.size
  clear hb1
  go_wp2_with fail
  refine (HOne.out w1).mono ?_
  rintro e w2 ⟨b, f0, rfl, rep2, hf2, hb2⟩
  have R2 := Lib.hid rep2
  have HF2 := Lib.hid (fun x hx => Nat.le_trans z1 (hf2 x hx))
  have HB2 := Lib.hid (HB1.out.trans (hb2.mono z1))
  clear rep2 hf2 hb2
  go_wp2_with fail
  go_loopw [24] (fun i wr => ∃ (k : Nat) (s : NSt) (f : Nat → Prop), k ≤ n ∧ i = .int .i64 k ∧ NRep wr b s f ∧ AOK E L (60 * k) s ∧ (∀ x, f x → w.heap.size ≤ x) ∧ Below w.heap.size w wr) (fun i _ => n - (intOf i).toNat)
  case atStart => exact ⟨0, _, f0, Nat.zero_le _, rfl, R2.out, HOk.out, HF2.out, HB2.out⟩
  case round =>
    obtain ⟨k, s, f, hk, rfl, hrep, hok, hf, bel⟩ := hrel
    have sz0 := bel.size
    by_cases hlt : k < n
    · skip
      obtain ⟨rb, off, A, C, rfl, rc, hin⟩ := rows_at HR.out (show k < len by omega) bel
      obtain ⟨l, hl⟩ : ∃ l, Z.getD k [] = l := ⟨_, rfl⟩
      rw [hl] at rc hin
      obtain ⟨m, hm⟩ : ∃ m, l.length = m := ⟨_, rfl⟩
      rw [hm] at rc hin
      have kw : IntKind.i64.wrap ((k : Int) + 1) = (k : Int) + 1 := IntWalk.i64_in _ (by omega)
      have HIn := Lib.hid hin
      have HAs := Lib.hid (fun w' (h : NRep w' b s f) hi => asked_ok b s f m C A l w' h hok (by omega) hi)
      have HOk2 := Lib.hid (askL_ok hok (by omega) l)
      rw [show (60 : Int) * k + 60 = 60 * ((k + 1 : Nat) : Int) by omega] at HOk2
      have HAk := Lib.hid (askL_ask s l)
      have HOk1 := Lib.hid hok
      obtain ⟨N, hN⟩ : ∃ N, (askL s l).2 = N := ⟨_, rfl⟩
      obtain ⟨s', hs'⟩ : ∃ s', (askL s l).1 = s' := ⟨_, rfl⟩
      rw [hN, hs'] at HAs HAk
      rw [hs'] at HOk2
      have HRep := Lib.hid hrep
      have HF := Lib.hid hf
      have HBe := Lib.hid bel
      have HL := Lib.hid hm
      clear hl hm hin hok hN hs' hrep hf bel
      have HPe := Lib.hid (fun f' w' (h : NRep w' b s' f') => npeers_ok b s' f' w' h HOk2.out.pre.ok)
      have HPk := Lib.hid (fun A c f' w' (h : PRow w' A 3 s'.peers f') => pcheck_ok A 3 c s'.peers f' w' h HOk2.out.pre.ok.tab)
      have HPp := Lib.hid (fun j (hj : j < 3) => HOk2.out.peer hj)
      have HL3 := Lib.hid HOk2.out.len3
      go_wp2_with fail
      refine (HAs.out wr HRep.out HIn.out).mono ?_
      rintro e w4 ⟨A', c', mm, rfl, own, rep, hmm, hmm2, kept⟩
      have OW4 := Lib.hid own
      have R4 := Lib.hid rep
      have B4 := Lib.hid (HBe.out.trans (kept.below (by omega) HF.out))
      have F4 := Lib.hid (fun x (hx : ext f wr.heap.size mm x) => (show w.heap.size ≤ x from hx.elim (HF.out x) (fun h => by omega)))
      have z4 := kept.size
      have pb := own_le own
      obtain ⟨p, hp⟩ : ∃ p, N.length = p := ⟨_, rfl⟩
      have HP := Lib.hid hp
      rw [hp] at OW4 pb ⊢
      obtain ⟨f4, hf4⟩ : ∃ g, ext f wr.heap.size mm = g := ⟨_, rfl⟩
      rw [hf4] at R4 F4
      clear own rep kept hp hf4
      go_wp2_with fail
      refine (HPe.out _ _ R4.out).mono ?_
      rintro e w5 ⟨A5, n5, c5, rfl, T5, hb5⟩
      have hn5 := T5.row.1
      rw [HL3.out] at hn5
      subst hn5
      have PR := Lib.hid T5.row
      have B5 := Lib.hid (B4.out.trans (hb5.mono B4.out.size))
      have R5 := Lib.hid (R4.out.below hb5)
      clear T5 hb5
      go_wp2_with fail
      refine (HPk.out _ _ _ _ PR.out).mono ?_
      rintro e w6 ⟨rfl, hb6⟩
      have PR6 := Lib.hid (PR.out.below hb6)
      have B6 := Lib.hid (B5.out.trans (hb6.mono B5.out.size))
      have R6 := Lib.hid (R5.out.below hb6)
      clear hb6
      have qa := alloc_cells
      have qf := alloc_frozens
      go_wp2_with fail
      go_loopw [43] (fun i wx => ∃ j : Nat, j ≤ 3 ∧ i = .int .i64 j ∧ Below w6.heap.size w6 wx) (fun i _ => 3 - (intOf i).toNat)
      case atStart => exact ⟨0, Nat.zero_le _, rfl, Below.refl _ _⟩
      case round =>
        obtain ⟨wx, rfl⟩ : ∃ z : World, z = wr := ⟨_, rfl⟩
        obtain ⟨j, hj, rfl, belx⟩ := hrel
        have szx := belx.size
        by_cases hjq : j < 3
        · obtain ⟨bp, op, rfl, lp, _, p0, p1, p2, p3, p4, p6, Bv, cv, p5, inv, _⟩ := (PR6.out.below belx).at hjq
          have hpp := HPp.out j hjq
          obtain ⟨P, hP⟩ : ∃ P, s'.peers.getD j default = P := ⟨_, rfl⟩
          rw [hP] at p0 p1 p2 p3 p4 p5 p6 inv hpp
          obtain ⟨hp1, hp2, hp3, hp4, hp5⟩ := hpp
          obtain ⟨q0, h0⟩ : ∃ x, P.id = x := ⟨_, rfl⟩
          obtain ⟨q1, h1⟩ : ∃ x, P.inc = x := ⟨_, rfl⟩
          obtain ⟨q2, h2⟩ : ∃ x, P.seq = x := ⟨_, rfl⟩
          obtain ⟨q3, h3⟩ : ∃ x, P.drops = x := ⟨_, rfl⟩
          obtain ⟨q4, h4⟩ : ∃ x, P.cap = x := ⟨_, rfl⟩
          obtain ⟨V, h5⟩ : ∃ x, P.vals = x := ⟨_, rfl⟩
          obtain ⟨q6, h6⟩ : ∃ x, P.last = x := ⟨_, rfl⟩
          have hbt := hp1.win.2.2.2
          rw [h0] at p0; rw [h1] at p1; rw [h2] at p2; rw [h3] at p3; rw [h4] at p4; rw [h5] at p5 inv hp2 hp3 hp5 hbt; rw [h6] at p6 hp4
          obtain ⟨vl, hvl⟩ : ∃ x, V.length = x := ⟨_, rfl⟩
          rw [hvl] at p5 inv hp2 hp3
          obtain ⟨S, hS⟩ : ∃ x, sumI V = x := ⟨_, rfl⟩
          rw [hS] at hp5
          have Rx := R6.out.below belx
          obtain ⟨Pv, Sv, nd⟩ := Rx.at'
          obtain ⟨nw, hnw⟩ : ∃ x, s'.now = x := ⟨_, rfl⟩
          rw [hnw] at nd hp4
          have ndl := nd.lt
          have g1 : decide (4 < (vl : Int)) = false := by simp; omega
          have g2 : decide ((vl : Int) < 1) = false := by simp; omega
          have g3 : decide (nw < q6) = false := by simp; omega
          have g4 : decide (S < 0) = false := by simp; omega
          have jw : IntKind.i64.wrap ((j : Int) + 1) = (j : Int) + 1 := IntWalk.i64_in _ (by omega)
          have hj3 : (j : Int) < 3 := by omega
          have HBx := Lib.hid (B6.out.trans (belx.mono B6.out.size))
          have HBx6 := Lib.hid belx
          have hb7 : Below wx.heap.size wx (wx.alloc (.cells #[.string q0, .int .i64 q1, .int .i64 q2, .int .i64 q3, .int .i64 q4, .slice Bv vl cv, .int .i64 q6] 56)) := (Below.refl _ _).alloc (Nat.le_refl _) _
          have y5 : (wx.alloc (.cells #[.string q0, .int .i64 q1, .int .i64 q2, .int .i64 q3, .int .i64 q4, .slice Bv vl cv, .int .i64 q6] 56)).cell? ⟨wx.heap.size, 5, none⟩ = some (.slice Bv vl cv) := by simp [qa]
          have y6 : (wx.alloc (.cells #[.string q0, .int .i64 q1, .int .i64 q2, .int .i64 q3, .int .i64 q4, .slice Bv vl cv, .int .i64 q6] 56)).cell? ⟨wx.heap.size, 6, none⟩ = some (.int .i64 q6) := by simp [qa]
          have yl : wx.heap.size < (wx.alloc (.cells #[.string q0, .int .i64 q1, .int .i64 q2, .int .i64 q3, .int .i64 q4, .slice Bv vl cv, .int .i64 q6] 56)).heap.size := by simp
          have HNw := Lib.hid (fun w' (hb : Below wx.heap.size wx w') => now_below w' (nd.same (hb.block b ndl)))
          have HSm := Lib.hid (fun w' (hb : Below wx.heap.size wx w') => nsum_below Bv vl cv V S w' (inv.1.below hb) (by omega) hbt hS)
          clear belx hP h0 h1 h2 h3 h4 h5 h6 hp1 hp2 hp3 hp4 hp5 hbt hvl hS inv Rx nd hnw
          go_upto_region 14 with fail
          obtain ⟨bx, hbx⟩ : ∃ x, wx.heap.size = x := ⟨_, rfl⟩
          rw [hbx] at y5 y6 yl ⊢
          have H7 := Lib.hid hb7
          generalize wx.alloc (.cells #[.string q0, .int .i64 q1, .int .i64 q2, .int .i64 q3, .int .i64 q4, .slice Bv vl cv, .int .i64 q6] 56) = w7 at H7 y5 y6 yl ⊢
          have HNw7 := Lib.hid (fun w' (hb : Below w7.heap.size w7 w') => HNw.out w' (H7.out.trans (hb.mono H7.out.size)))
          have HSm7 := Lib.hid (fun w' (hb : Below w7.heap.size w7 w') => HSm.out w' (H7.out.trans (hb.mono H7.out.size)))
          have z7 := H7.out.size
          clear hb7 hbx p0 p1 p2 p3 p4 p5 p6 lp qa qf
          refine wp_region_quiet_all (Ext _) (by kernel_rfl) (by kernel_rfl) (Ext.drawn _) ?_
          repeat (first | go_big_quiet_skip | go_big_quiet_step (fail) | (refine BigFrame.wpQuiet_want rfl (fun K hK => ?_); apply Exists.intro; refine ⟨fun w2 h2 => ?_, ?_⟩; (next => (have g1 := Below.cells h2.below; have g2 := Below.frozens h2.below; (try simp only [World.size_alloc, World.size_setCell] at g1 g2); first | (go_simp; (first | (go_at_call 52; refine h2.calls (HNw7.out _ h2.below)) | (go_at_call 62; refine h2.calls (HSm7.out _ h2.below)))) | (simp [go_sem, ↓IntWalk.iteOmega, *]; done) | (simp [go_sem, ↓IntWalk.iteOmega, *]; rfl)))); (go_simp; refine hK _ ?_; clear hK K))
          refine wpQuiet_nil ?_
          intro w8 h8
          have hb8 := h8.below
          clear h8
          have z8 := hb8.size
          have c8 := Below.cells hb8
          have f8 := Below.frozens hb8
          try simp only [World.size_alloc, World.size_setCell, World.size_drew] at z8 c8 f8
          go_wp2_with fail
          go_roundw
          case rel => exact ⟨j + 1, by omega, by go_num, (HBx6.out.trans (H7.out.mono HBx6.out.size)).trans (hb8.mono (by have := HBx6.out.size; omega))⟩
          case measure => simp [intOf]; omega
        · obtain rfl : j = 3 := by omega
          have HBx := Lib.hid belx
          clear belx
          go_wp2_with fail
          go_roundw
          case rel => exact ⟨k + 1, s', f4, by omega, by go_num, R6.out.below HBx.out, HOk2.out, F4.out, B6.out.trans (HBx.out.mono (by have := B6.out.size; omega))⟩
          case measure => simp [intOf]; omega
    · obtain rfl : n = k := by omega
      have HBe := Lib.hid bel
      clear hrep hok hf bel
      go_wp2_with fail
      go_ret
      exact ⟨rfl, HBe.out⟩
end Go.Proofs.Ytpomdnglknbanaa

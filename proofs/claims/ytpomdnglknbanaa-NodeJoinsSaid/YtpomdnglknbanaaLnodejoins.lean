import Derived.Test.YtpomdnglknbanaaKt
set_option linter.unusedSimpArgs false
set_option linter.unusedVariables false
namespace Go.Proofs.Ytpomdnglknbanaa
open Go Go.RowKit
theorem AOK.has3 {E L T : Int} {s : NSt} (h : AOK E L T s) {id : ByteArray} (hid : id = nB ∨ id = nC ∨ id = nD) : has s.peers id = true := by
  refine (has_iff h.pre.ok.tab.order id).2 ?_
  have hm : id ∈ s.peers.map (·.id) := by rw [h.pre.ids]; rcases hid with rfl | rfl | rfl <;> simp
  obtain ⟨p, hp, e⟩ := List.mem_map.1 hm
  exact ⟨p, hp, e⟩
theorem AOK.idx20 {E L T th : Int} {s : NSt} (h : AOK E L T s) (id : ByteArray) (ht : 20 ≤ th) : idxS (hitS id th) s.subs = -1 := by
  refine idxS_none fun j hj => ?_
  have := (h.pre.subs _ (getD_mem (d := default) hj)).2.2
  cases hc : hitS id th (s.subs.getD j default) with
  | false => rfl
  | true => have := (hit_iff.1 hc).2; omega
/-- One more sub, behind the others, which stay as they were. -/
theorem AOK.joined {E L T th : Int} {s : NSt} (h : AOK E L T s) (id : ByteArray) : toldS (joinS s id th) = s.subs ++ [upd (joinS s id th) ⟨id, th, false⟩] := by
  show (s.subs ++ [(⟨id, th, false⟩ : Sub)]).map (upd (joinS s id th)) = _
  rw [List.map_append]
  congr 1
  conv => rhs; rw [← List.map_id s.subs]
  apply List.map_congr_left
  intro u hu
  have h1 : onOf (joinS s id th) u = u.on := (h.on u hu).symm
  unfold upd
  rw [h1]
  rfl
theorem idx_last {L : List Sub} {id : ByteArray} {th : Int} {u : Sub} (hu : u.id = id ∧ u.theta = th) (hx : idxS (hitS id th) L = -1) : idxS (hitS id th) (L ++ [u]) = (L.length : Int) := by
  refine idxS_some (by simp) ?_ (fun j hj => ?_)
  · rw [List.getD_eq_getElem?_getD, List.getElem?_append_right (Nat.le_refl _)]
    simpa using hit_iff.2 hu
  · rw [List.getD_eq_getElem?_getD, List.getElem?_append_left hj, ← List.getD_eq_getElem?_getD]
    exact idx_no hx _ (getD_mem hj)
theorem erase_last (L : List Sub) (u : Sub) : (L ++ [u]).eraseIdx L.length = L := by
  induction L with
  | nil => rfl
  | cons v L ih => simpa using ih
theorem own_kept' {f : Nat → Prop} {w w' : World} {B e s n : Nat} {v : Value} {xs : List Value} (h : w.ownsRow B e s v n xs) (hf : ∀ g, v.ownBlock = some g → ¬ f g) (hk : Kept f w w') : w'.ownsRow B e s v n xs :=
  own_same (f := fun x => ¬ f x) h hf ⟨hk.size, fun x hx hfx => hk.block x hx hfx⟩
set_option maxRecDepth 100000 in
set_option maxHeartbeats 16000000 in
theorem nodeJoins_walk (e0 l0 : Int) (a : Option Addr) (len cap : Nat) (Z : List (List Int)) (t0 : Int) (w : World) (_ : (Lit.int .i64 e0).wf = true) (_ : (Lit.int .i64 l0).wf = true) (hr : IsRows w a len Z) (hc : len ≤ cap ∧ cap ≤ maxLen) (_ : (Lit.int .i64 t0).wf = true) :
    Calls Try.prog 15 #[.int .i64 e0, .int .i64 l0, .slice a len cap, .int .i64 t0] w fun e w' => e = .returned (.bool true) ∧ Below w.heap.size w w' := by
  obtain ⟨hcp, hmx⟩ := hc
  unfold maxLen at hmx
  obtain ⟨n, hn⟩ : ∃ n : Nat, min len 40 = n := ⟨_, rfl⟩
  have hmin : min (len : Int) 40 = (n : Int) := by omega
  have hnl : n ≤ len := by omega
  have nl' : (n : Int) ≤ len := by omega
  have nc' : (n : Int) ≤ cap := by omega
  have hn80 : n ≤ 40 := by omega
  obtain ⟨E, hE⟩ : ∃ E, within e0 50 = E - 1 := ⟨within e0 50 + 1, by omega⟩
  obtain ⟨L, hL⟩ : ∃ L, within l0 20 = L - 1 := ⟨within l0 20 + 1, by omega⟩
  have b1 := within_bd e0 (n := 50) (by omega)
  have b2 := within_bd l0 (n := 20) (by omega)
  have HOne := Lib.hid (fun w' => one_ok e0 l0 E L w' hE hL)
  have HOk := Lib.hid (oneS_ok (E := E) (L := L) ⟨by omega, by omega⟩ ⟨by omega, by omega⟩)
  have HEL := Lib.hid (show (1 ≤ E ∧ E ≤ 50) ∧ (1 ≤ L ∧ L ≤ 20) by omega)
  have HR := Lib.hid hr
  have HB := Lib.hid (fun w' => nbegun_ok w')
  clear hr hn hE hL b1 b2
  go_enter Try.func15, Try.ntmps15
  go_wp2_with fail
  refine (HB.out w).mono ?_
  rintro e w1 ⟨rfl, hb1⟩
  have HB1 := Lib.hid hb1
  have z1 := hb1.size
  clear hb1
  go_wp2_with fail
  refine (HOne.out w1).mono ?_
  rintro e w2 ⟨b, f0, rfl, rep2, hf2, hb2⟩
  have R2 := Lib.hid rep2
  have HF2 := Lib.hid (fun x hx => Nat.le_trans z1 (hf2 x hx))
  have HB2 := Lib.hid (HB1.out.trans (hb2.mono z1))
  clear rep2 hf2 hb2
  go_wp2_with fail
  go_loopw [28] (fun i wr => ∃ (k : Nat) (s : NSt) (f : Nat → Prop), k ≤ n ∧ i = .int .i64 k ∧ NRep wr b s f ∧ AOK E L (60 * k) s ∧ (∀ x, f x → w.heap.size ≤ x) ∧ Below w.heap.size w wr) (fun i _ => n - (intOf i).toNat)
  case atStart => exact ⟨0, _, f0, Nat.zero_le _, rfl, R2.out, HOk.out, HF2.out, HB2.out⟩
  case round =>
    obtain ⟨k, s, f, hk, rfl, hrep, hok, hf, bel⟩ := hrel
    have sz0 := bel.size
    by_cases hlt : k < n
    · obtain ⟨rb, off, A, C, rfl, rc, hin⟩ := rows_at HR.out (show k < len by omega) bel
      obtain ⟨l, hl⟩ : ∃ l, Z.getD k [] = l := ⟨_, rfl⟩
      rw [hl] at rc hin
      obtain ⟨m, hm⟩ : ∃ m, l.length = m := ⟨_, rfl⟩
      rw [hm] at rc hin
      have kw : IntKind.i64.wrap ((k : Int) + 1) = (k : Int) + 1 := IntWalk.i64_in _ (by omega)
      have HIn := Lib.hid hin
      have HAs := Lib.hid (fun w' (h : NRep w' b s f) hi => asked_ok b s f m C A l w' h hok (by omega) hi)
      have HOk2 := Lib.hid (askL_ok hok (by omega) l)
      rw [show (60 : Int) * k + 60 = 60 * ((k + 1 : Nat) : Int) by omega] at HOk2
      have HAk := Lib.hid (askL_ask s l)
      have HOk1 := Lib.hid hok
      obtain ⟨N, hN⟩ : ∃ N, (askL s l).2 = N := ⟨_, rfl⟩
      obtain ⟨s', hs'⟩ : ∃ s', (askL s l).1 = s' := ⟨_, rfl⟩
      rw [hN, hs'] at HAs HAk
      rw [hs'] at HOk2
      have HRep := Lib.hid hrep
      have HF := Lib.hid hf
      have HBe := Lib.hid bel
      have HL := Lib.hid hm
      clear hl hm hin hok hN hs' hrep hf bel
      go_wp2_with fail
      refine (HAs.out wr HRep.out HIn.out).mono ?_
      rintro e w4 ⟨A', c', mm, rfl, own, rep, hmm, hmm2, kept⟩
      have OW4 := Lib.hid own
      have R4 := Lib.hid rep
      have B4 := Lib.hid (HBe.out.trans (kept.below (by omega) HF.out))
      have F4 := Lib.hid (fun x (hx : ext f wr.heap.size mm x) => (show w.heap.size ≤ x from hx.elim (HF.out x) (fun h => by omega)))
      have z4 := kept.size
      have pb := own_le own
      obtain ⟨p, hp⟩ : ∃ p, N.length = p := ⟨_, rfl⟩
      have HP := Lib.hid hp
      rw [hp] at OW4 pb ⊢
      obtain ⟨f4, hf4⟩ : ∃ g, ext f wr.heap.size mm = g := ⟨_, rfl⟩
      rw [hf4] at R4 F4
      clear own rep kept hp hf4
      go_wp2_with fail
      go_roundw
      case rel => first | exact ⟨k + 1, s', f4, by omega, by go_num, R4.out, HOk2.out, F4.out, B4.out⟩ | ((repeat apply Exists.intro); exact ⟨⟨k + 1, s', f4, by omega, by go_num, R4.out, HOk2.out, F4.out, B4.out⟩, rfl⟩)
      case measure => simp [intOf]; omega
    · obtain rfl : n = k := by omega
      have HRep := Lib.hid hrep
      have HOk1 := Lib.hid hok
      have HF := Lib.hid hf
      have HBe := Lib.hid bel
      clear hrep hok hf bel
      go_wp2_with fail
      have b1 := within_bd t0 (n := 40) (by omega)
      obtain ⟨y, e_y⟩ : ∃ z_, within t0 40 = z_ := ⟨_, rfl⟩
      rw [e_y] at b1
      have Hy := Lib.hid e_y
      clear e_y
      obtain ⟨th, hth⟩ : ∃ x, 20 + y = x := ⟨_, rfl⟩
      have vt : IntKind.i64.wrap (20 + y) = th := by rw [hth]; exact IntWalk.i64_in _ (by omega)
      have tb : 20 ≤ th ∧ th ≤ 60 := by omega
      have hx := HOk1.out.idx20 nB tb.1
      have hb := HOk1.out.has3 (.inl (rfl : nB = nB))
      refine (nsubs_ok b s f wr HRep.out HOk1.out.pre.ok).mono ?_
      rintro e w3 ⟨A3, c3, rfl, own3, hb3⟩
      obtain ⟨q, hq⟩ : ∃ q, s.subs.length = q := ⟨_, rfl⟩
      have h8 := HOk1.out.pre.ok.subs
      rw [hq] at own3 h8 ⊢
      have z3 := hb3.size
      have R3 := Lib.hid (HRep.out.below hb3)
      have B3 := Lib.hid (HBe.out.trans (hb3.mono sz0))
      have HNf := Lib.hid (fun g (hg : (Value.slice A3 q c3).ownBlock = some g) => (show ¬ f g ∧ g < w3.heap.size from by
        have := own3.lt g hg
        exact ⟨fun hfg => by have := HRep.out.lt g hfg; omega, this.2⟩))
      have O3 := Lib.hid own3
      have HQ := Lib.hid hq
      have e1 : ((q : Int) == 8) = decide (q = 8) := by
        by_cases c : q = 8
        · subst c; rfl
        · simp [c]; omega
      by_cases hl : s.subs.length < 8
      · have hj := HOk1.out.joined (th := th) nB
        obtain ⟨u, hu⟩ : ∃ u, upd (joinS s nB th) ⟨nB, th, false⟩ = u := ⟨_, rfl⟩
        have huu : u.id = nB ∧ u.theta = th := by rw [← hu]; exact ⟨rfl, rfl⟩
        rw [hu] at hj
        obtain ⟨t, ht⟩ : ∃ t, tellS (joinS s nB th) = t := ⟨_, rfl⟩
        have hts : t.subs = s.subs ++ [u] := by rw [← ht]; exact hj
        have htn : NOK t := by rw [← ht]; exact (HOk1.out.pre.ok.join nB th hl).tell
        have htp : t.peers = s.peers := by rw [← ht]; rfl
        have hF1 : (joinF s nB th).1 = t := by unfold joinF; rw [if_pos ⟨hb, hx, hl⟩]; exact ht
        have hx2 := idx_last (L := s.subs) huu hx
        rw [← hts] at hx2
        have hF2 : (joinF t nB th).1 = t := by unfold joinF; rw [if_neg (fun hc => by have := hc.2.1; rw [hx2] at this; omega)]
        obtain ⟨t2, ht2⟩ : ∃ t2, partQ t s.subs.length = t2 := ⟨_, rfl⟩
        have hF3 : (partF t nB th).1 = t2 := by unfold partF; rw [if_pos (by rw [hx2]; omega), hx2]; exact ht2
        have ht2s : t2.subs = s.subs := by rw [← ht2]; show t.subs.eraseIdx s.subs.length = _; rw [hts]; exact erase_last _ _
        have ht2n : NOK t2 := by
          rw [← ht2]
          exact ⟨htn.id, htn.inc, htn.every, htn.cap, htn.least, htn.now, htn.seq, htn.drops, htn.tab, htn.wins, by show (t.subs.eraseIdx s.subs.length).length ≤ 8; rw [hts, erase_last]; omega⟩
        have hF4 : (partF t2 nB th).1 = t2 := by unfold partF; rw [if_neg (by rw [ht2s, hx]; omega)]
        have HJ1 := Lib.hid (fun w' (h : NRep w' b s f) => ajoin (id := nB) (th := th) w' h HOk1.out.pre.ok (by omega))
        have HJ2 := Lib.hid (fun g w' (h : NRep w' b t g) => ajoin (id := nB) (th := th) w' h htn (by omega))
        have HP1 := Lib.hid (fun g w' (h : NRep w' b t g) => apart (id := nB) (th := th) w' h htn)
        have HP2 := Lib.hid (fun g w' (h : NRep w' b t2 g) => apart (id := nB) (th := th) w' h ht2n)
        have HS1 := Lib.hid (fun g w' (h : NRep w' b t g) => nsubs_ok b t g w' h htn)
        have HS2 := Lib.hid (fun g w' (h : NRep w' b t2 g) => nsubs_ok b t2 g w' h ht2n)
        rw [hF1, hb, if_pos rfl, hx, if_neg (by omega), if_pos hl] at HJ1
        rw [hF2, htp, hb, if_pos rfl, hx2, if_pos (by omega)] at HJ2
        rw [hF3, hx2, if_pos (by omega)] at HP1
        rw [hF4, ht2s, hx, if_neg (by omega)] at HP2
        have htl : t.subs.length = q + 1 := by rw [hts, List.length_append, hq]; rfl
        rw [htl] at HS1
        rw [ht2s, hq] at HS2
        have vq : IntKind.i64.wrap ((q : Int) + 1) = ((q + 1 : Nat) : Int) := by rw [IntWalk.i64_in _ (by omega)]; omega
        clear hx hb hq hj hu huu hts htn htp hF1 hx2 hF2 hF3 ht2s ht2n hF4 htl ht ht2 own3 hb3 hth hl
        go_wp2_with fail
        refine (within_any t0 40 y _ (by omega) (by omega) Hy.out).mono ?_
        rintro e w' ⟨rfl, rfl⟩
        go_wp2_with fail
        refine (HJ1.out w3 R3.out).mono ?_
        rintro e w4 ⟨A4, c4, m4, x4, rfl, _, rep4, hm4, hm4', k4, rfl⟩
        have O4 := Lib.hid (own_kept' O3.out (fun g hg => (HNf.out g hg).1) k4)
        have F4 := Lib.hid (fun x (hx : ext f w3.heap.size m4 x) => (show w.heap.size ≤ x from hx.elim (HF.out x) (fun h => by omega)))
        have N4 := Lib.hid (fun g hg => (show ¬ ext f w3.heap.size m4 g from fun h => h.elim (HNf.out g hg).1 (fun h => by have := (HNf.out g hg).2; omega)))
        have B4 := Lib.hid (B3.out.trans (k4.below (by omega) HF.out))
        have R4 := Lib.hid rep4
        have z4 := k4.size
        obtain ⟨f4, hf4⟩ : ∃ g, ext f w3.heap.size m4 = g := ⟨_, rfl⟩
        rw [hf4] at F4 N4 R4
        clear rep4 k4 hf4
        go_wp2_with fail
        refine (HJ2.out f4 w4 R4.out).mono ?_
        rintro e w5 ⟨A5, c5, m5, x5, rfl, _, rep5, hm5, hm5', k5, rfl⟩
        have O5 := Lib.hid (own_kept' O4.out N4.out k5)
        have F5 := Lib.hid (fun x (hx : ext f4 w4.heap.size m5 x) => (show w.heap.size ≤ x from hx.elim (F4.out x) (fun h => by omega)))
        have N5 := Lib.hid (fun g hg => (show ¬ ext f4 w4.heap.size m5 g from fun h => h.elim (N4.out g hg) (fun h => by have := (HNf.out g hg).2; omega)))
        have B5 := Lib.hid (B4.out.trans (k5.below (by omega) F4.out))
        have R5 := Lib.hid rep5
        have z5 := k5.size
        obtain ⟨f5, hf5⟩ : ∃ g, ext f4 w4.heap.size m5 = g := ⟨_, rfl⟩
        rw [hf5] at F5 N5 R5
        clear rep5 k5 hf5
        go_wp2_with fail
        refine (HS1.out f5 w5 R5.out).mono ?_
        rintro e w6 ⟨A6, c6, rfl, _, hb6⟩
        have O6 := Lib.hid (own_below O5.out hb6)
        have B6 := Lib.hid (B5.out.trans (hb6.mono (by omega)))
        have R6 := Lib.hid (R5.out.below hb6)
        have z6 := hb6.size
        clear hb6
        go_wp2_with fail
        refine (HP1.out f5 w6 R6.out).mono ?_
        rintro e w7 ⟨x7, rfl, rep7, k7, rfl⟩
        have O7 := Lib.hid (own_kept' O6.out N5.out k7)
        have B7 := Lib.hid (B6.out.trans (k7.below (by omega) F5.out))
        have R7 := Lib.hid rep7
        have z7 := k7.size
        clear rep7 k7
        go_wp2_with fail
        refine (HP2.out f5 w7 R7.out).mono ?_
        rintro e w8 ⟨x8, rfl, rep8, k8, rfl⟩
        have O8 := Lib.hid (own_kept' O7.out N5.out k8)
        have B8 := Lib.hid (B7.out.trans (k8.below (by omega) F5.out))
        have R8 := Lib.hid rep8
        have z8 := k8.size
        clear rep8 k8
        go_wp2_with fail
        refine (HS2.out f5 w8 R8.out).mono ?_
        rintro e w9 ⟨A9, c9, rfl, own9, hb9⟩
        have SA := Lib.hid (srow_own (own_below O8.out hb9) HQ.out)
        have SB := Lib.hid (srow_own own9 HQ.out)
        have B9 := Lib.hid (B8.out.trans (hb9.mono (by omega)))
        have z9 := hb9.size
        clear own9 hb9
        go_wp2_with fail
        refine (equalS_ok A9 A3 q c9 c3 s.subs w9 SB.out SA.out (by omega)).mono ?_
        rintro e w10 ⟨rfl, hb10⟩
        have B10 := Lib.hid (B9.out.trans (hb10.mono (by omega)))
        clear hb10
        go_wp2_with fail
        go_ret
        exact ⟨rfl, B10.out⟩
      · have q8 : q = 8 := by omega
        subst q8
        have HJ1 := Lib.hid (fun w' (h : NRep w' b s f) => ajoin (id := nB) (th := th) w' h HOk1.out.pre.ok (by omega))
        have hF1 : (joinF s nB th).1 = s := by unfold joinF; rw [if_neg (fun hc => hl hc.2.2)]
        have HS2 := Lib.hid (fun g w' (h : NRep w' b s g) => nsubs_ok b s g w' h HOk1.out.pre.ok)
        rw [hF1, hb, if_pos rfl, hx, if_neg (by omega), if_neg hl] at HJ1
        rw [hq] at HS2
        clear hx hb hq own3 hb3 hth hl hF1 e1
        go_wp2_with fail
        refine (within_any t0 40 y _ (by omega) (by omega) Hy.out).mono ?_
        rintro e w' ⟨rfl, rfl⟩
        go_wp2_with fail
        refine (HJ1.out w3 R3.out).mono ?_
        rintro e w4 ⟨A4, c4, m4, x4, rfl, _, rep4, hm4, hm4', k4, rfl⟩
        have O4 := Lib.hid (own_kept' O3.out (fun g hg => (HNf.out g hg).1) k4)
        have B4 := Lib.hid (B3.out.trans (k4.below (by omega) HF.out))
        have R4 := Lib.hid rep4
        have z4 := k4.size
        clear rep4 k4
        go_wp2_with fail
        refine (HS2.out _ w4 R4.out).mono ?_
        rintro e w9 ⟨A9, c9, rfl, own9, hb9⟩
        have SA := Lib.hid (srow_own (own_below O4.out hb9) HQ.out)
        have SB := Lib.hid (srow_own own9 HQ.out)
        have B9 := Lib.hid (B4.out.trans (hb9.mono (by omega)))
        have z9 := hb9.size
        clear own9 hb9
        go_wp2_with fail
        refine (equalS_ok A9 A3 8 c9 c3 s.subs w9 SB.out SA.out (by omega)).mono ?_
        rintro e w10 ⟨rfl, hb10⟩
        have B10 := Lib.hid (B9.out.trans (hb10.mono (by omega)))
        clear hb10
        go_wp2_with fail
        go_ret
        exact ⟨rfl, B10.out⟩
end Go.Proofs.Ytpomdnglknbanaa

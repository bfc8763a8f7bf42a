import Derived.Test.YtpomdnglknbanaaKs
set_option linter.unusedSimpArgs false
set_option linter.unusedVariables false
namespace Go.Proofs.Ytpomdnglknbanaa
open Go Go.RowKit
/-- Who is suspected at some threshold is at each lesser one. -/
theorem sure_on {E L T : Int} {s : NSt} (h : AOK E L T s) {u v : Sub} (hu : u ∈ s.subs) (hv : v ∈ s.subs) (hid : u.id = v.id) (ht : u.theta ≤ v.theta) (hon : v.on = true) : u.on = true := by
  have h1 := h.on u hu
  have h2 := h.on v hv
  rw [hon] at h2
  unfold onOf at h1 h2
  have h3 : v.theta ≤ levN s v.id := by simpa using h2.symm
  rw [h1, hid]
  simp; omega
set_option maxRecDepth 100000 in
set_option maxHeartbeats 16000000 in
theorem nodeSure_walk (e0 l0 : Int) (a : Option Addr) (len cap : Nat) (Z : List (List Int)) (w : World) (_ : (Lit.int .i64 e0).wf = true) (_ : (Lit.int .i64 l0).wf = true) (hr : IsRows w a len Z) (hc : len ≤ cap ∧ cap ≤ maxLen) :
    Calls Try.prog 13 #[.int .i64 e0, .int .i64 l0, .slice a len cap] w fun e w' => e = .returned (.bool true) ∧ Below w.heap.size w w' := by
  obtain ⟨hcp, hmx⟩ := hc
  unfold maxLen at hmx
  obtain ⟨n, hn⟩ : ∃ n : Nat, min len 80 = n := ⟨_, rfl⟩
  have hmin : min (len : Int) 80 = (n : Int) := by omega
  have hnl : n ≤ len := by omega
  have nl' : (n : Int) ≤ len := by omega
  have nc' : (n : Int) ≤ cap := by omega
  have hn80 : n ≤ 80 := by omega
  obtain ⟨E, hE⟩ : ∃ E, within e0 50 = E - 1 := ⟨within e0 50 + 1, by omega⟩
  obtain ⟨L, hL⟩ : ∃ L, within l0 20 = L - 1 := ⟨within l0 20 + 1, by omega⟩
  have b1 := within_bd e0 (n := 50) (by omega)
  have b2 := within_bd l0 (n := 20) (by omega)
  have HOne := Lib.hid (fun w' => one_ok e0 l0 E L w' hE hL)
  have HOk := Lib.hid (oneS_ok (E := E) (L := L) ⟨by omega, by omega⟩ ⟨by omega, by omega⟩)
  have HEL := Lib.hid (show (1 ≤ E ∧ E ≤ 50) ∧ (1 ≤ L ∧ L ≤ 20) by omega)
  have HR := Lib.hid hr
  have HB := Lib.hid (fun w' => nbegun_ok w')
  clear hr hn hE hL b1 b2
  go_enter Try.func13, Try.ntmps13
  go_wp2_with fail
  refine (HB.out w).mono ?_
  rintro e w1 ⟨rfl, hb1⟩
  have HB1 := Lib.hid hb1
  have z1 := hb1.size
  clear hb1
  go_wp2_with fail
  refine (HOne.out w1).mono ?_
  rintro e w2 ⟨b, f0, rfl, rep2, hf2, hb2⟩
  have R2 := Lib.hid rep2
  have HF2 := Lib.hid (fun x hx => Nat.le_trans z1 (hf2 x hx))
  have HB2 := Lib.hid (HB1.out.trans (hb2.mono z1))
  clear rep2 hf2 hb2
  go_wp2_with fail
  go_loopw [26] (fun i wr => ∃ (k : Nat) (s : NSt) (f : Nat → Prop), k ≤ n ∧ i = .int .i64 k ∧ NRep wr b s f ∧ AOK E L (60 * k) s ∧ (∀ x, f x → w.heap.size ≤ x) ∧ Below w.heap.size w wr) (fun i _ => n - (intOf i).toNat)
  case atStart => exact ⟨0, _, f0, Nat.zero_le _, rfl, R2.out, HOk.out, HF2.out, HB2.out⟩
  case round =>
    obtain ⟨k, s, f, hk, rfl, hrep, hok, hf, bel⟩ := hrel
    have sz0 := bel.size
    by_cases hlt : k < n
    · skip
      obtain ⟨rb, off, A, C, rfl, rc, hin⟩ := rows_at HR.out (show k < len by omega) bel
      obtain ⟨l, hl⟩ : ∃ l, Z.getD k [] = l := ⟨_, rfl⟩
      rw [hl] at rc hin
      obtain ⟨m, hm⟩ : ∃ m, l.length = m := ⟨_, rfl⟩
      rw [hm] at rc hin
      have kw : IntKind.i64.wrap ((k : Int) + 1) = (k : Int) + 1 := IntWalk.i64_in _ (by omega)
      have HIn := Lib.hid hin
      have HAs := Lib.hid (fun w' (h : NRep w' b s f) hi => asked_ok b s f m C A l w' h hok (by omega) hi)
      have HOk2 := Lib.hid (askL_ok hok (by omega) l)
      rw [show (60 : Int) * k + 60 = 60 * ((k + 1 : Nat) : Int) by omega] at HOk2
      have HAk := Lib.hid (askL_ask s l)
      have HOk1 := Lib.hid hok
      obtain ⟨N, hN⟩ : ∃ N, (askL s l).2 = N := ⟨_, rfl⟩
      obtain ⟨s', hs'⟩ : ∃ s', (askL s l).1 = s' := ⟨_, rfl⟩
      rw [hN, hs'] at HAs HAk
      rw [hs'] at HOk2
      have HRep := Lib.hid hrep
      have HF := Lib.hid hf
      have HBe := Lib.hid bel
      have HL := Lib.hid hm
      clear hl hm hin hok hN hs' hrep hf bel
      have HSu := Lib.hid (fun f' w' (h : NRep w' b s' f') => nsubs_ok b s' f' w' h HOk2.out.pre.ok)
      have HSure := Lib.hid (fun u v hu hv h1 h2 h3 => sure_on (u := u) (v := v) HOk2.out hu hv h1 h2 h3)
      go_wp2_with fail
      refine (HAs.out wr HRep.out HIn.out).mono ?_
      rintro e w4 ⟨A', c', mm, rfl, own, rep, hmm, hmm2, kept⟩
      have OW4 := Lib.hid own
      have R4 := Lib.hid rep
      have B4 := Lib.hid (HBe.out.trans (kept.below (by omega) HF.out))
      have F4 := Lib.hid (fun x (hx : ext f wr.heap.size mm x) => (show w.heap.size ≤ x from hx.elim (HF.out x) (fun h => by omega)))
      have z4 := kept.size
      have pb := own_le own
      obtain ⟨p, hp⟩ : ∃ p, N.length = p := ⟨_, rfl⟩
      have HP := Lib.hid hp
      rw [hp] at OW4 pb ⊢
      obtain ⟨f4, hf4⟩ : ∃ g, ext f wr.heap.size mm = g := ⟨_, rfl⟩
      rw [hf4] at R4 F4
      clear own rep kept hp hf4
      go_wp2_with fail
      refine (HSu.out _ _ R4.out).mono ?_
      rintro e w5 ⟨A5, c5, rfl, own5, hb5⟩
      have SR := Lib.hid (srow_own own5 rfl)
      have B5 := Lib.hid (B4.out.trans (hb5.mono B4.out.size))
      have R5 := Lib.hid (R4.out.below hb5)
      have qb := own_le own5
      obtain ⟨q, hq⟩ : ∃ q, s'.subs.length = q := ⟨_, rfl⟩
      rw [hq] at SR qb ⊢
      have HQ := Lib.hid hq
      clear own5 hb5 hq
      have qa := alloc_cells
      have qf := alloc_frozens
      go_wp2_with fail
      go_loopw [37] (fun i wx => ∃ j : Nat, j ≤ q ∧ i = .int .i64 j ∧ Below w5.heap.size w5 wx) (fun i _ => q - (intOf i).toNat)
      case atStart => exact ⟨0, Nat.zero_le _, rfl, Below.refl _ _⟩
      case round =>
        obtain ⟨wx, rfl⟩ : ∃ z : World, z = wr := ⟨_, rfl⟩
        obtain ⟨j, hj, rfl, belx⟩ := hrel
        have szx := belx.size
        by_cases hjq : j < q
        · obtain ⟨bu, ou, rfl, lu, u0, u1, u2⟩ := (SR.out.below belx).at hjq
          obtain ⟨u, hu⟩ : ∃ u, s'.subs.getD j default = u := ⟨_, rfl⟩
          rw [hu] at u0 u1 u2
          have hum := Lib.hid (show u ∈ s'.subs by rw [← hu]; exact getD_mem (by have := HQ.out; omega))
          obtain ⟨uid, huid⟩ : ∃ x, u.id = x := ⟨_, rfl⟩
          obtain ⟨uth, huth⟩ : ∃ x, u.theta = x := ⟨_, rfl⟩
          obtain ⟨uon, huon⟩ : ∃ x, u.on = x := ⟨_, rfl⟩
          rw [huid] at u0
          rw [huth] at u1
          rw [huon] at u2
          have HU := Lib.hid (And.intro huid (And.intro huth huon))
          have HBx := Lib.hid belx
          have jw : IntKind.i64.wrap ((j : Int) + 1) = (j : Int) + 1 := IntWalk.i64_in _ (by omega)
          clear hu huid huth huon belx
          go_wp2_with fail
          have hb6 : Below wx.heap.size wx (wx.alloc (.cells #[.string uid, .int .i64 uth, .bool uon] 102)) := (Below.refl _ _).alloc (Nat.le_refl _) _
          have y0 : (wx.alloc (.cells #[.string uid, .int .i64 uth, .bool uon] 102)).cell? ⟨wx.heap.size, 0, none⟩ = some (.string uid) := by simp [qa]
          have y1 : (wx.alloc (.cells #[.string uid, .int .i64 uth, .bool uon] 102)).cell? ⟨wx.heap.size, 1, none⟩ = some (.int .i64 uth) := by simp [qa]
          have y2 : (wx.alloc (.cells #[.string uid, .int .i64 uth, .bool uon] 102)).cell? ⟨wx.heap.size, 2, none⟩ = some (.bool uon) := by simp [qa]
          have yl : wx.heap.size < (wx.alloc (.cells #[.string uid, .int .i64 uth, .bool uon] 102)).heap.size := by simp
          have HB6 := Lib.hid (HBx.out.trans (hb6.mono szx))
          obtain ⟨bx, hbx⟩ : ∃ x, wx.heap.size = x := ⟨_, rfl⟩
          rw [hbx] at y0 y1 y2 yl ⊢
          generalize wx.alloc (.cells #[.string uid, .int .i64 uth, .bool uon] 102) = w6 at HB6 y0 y1 y2 yl ⊢
          have z6 := HB6.out.size
          have Y := Lib.hid (And.intro y0 (And.intro y1 y2))
          clear hb6 u0 u1 u2 lu y0 y1 y2 hbx
          go_loopw [43] (fun i wy => ∃ g : Nat, g ≤ q ∧ i = .int .i64 g ∧ Below w6.heap.size w6 wy) (fun i _ => q - (intOf i).toNat)
          case atStart => exact ⟨0, Nat.zero_le _, rfl, Below.refl _ _⟩
          case round =>
            obtain ⟨wy, rfl⟩ : ∃ z : World, z = wr := ⟨_, rfl⟩
            obtain ⟨g, hg, rfl, bely⟩ := hrel
            have szy := bely.size
            by_cases hgq : g < q
            · obtain ⟨bv, ov, hA, lv, v0, v1, v2⟩ := (SR.out.below (HB6.out.trans (bely.mono z6))).at hgq
              obtain ⟨rfl, rfl⟩ : bu = bv ∧ ou = ov := by simpa using hA
              obtain ⟨v, hv⟩ : ∃ v, s'.subs.getD g default = v := ⟨_, rfl⟩
              rw [hv] at v0 v1 v2
              have hvm : v ∈ s'.subs := by rw [← hv]; exact getD_mem (by have := HQ.out; omega)
              have hsu := HSure.out u v hum.out hvm
              rw [HU.out.1, HU.out.2.1, HU.out.2.2] at hsu
              obtain ⟨vid, hvid⟩ : ∃ x, v.id = x := ⟨_, rfl⟩
              obtain ⟨vth, hvth⟩ : ∃ x, v.theta = x := ⟨_, rfl⟩
              obtain ⟨von, hvon⟩ : ∃ x, v.on = x := ⟨_, rfl⟩
              rw [hvid] at v0 hsu
              rw [hvth] at v1 hsu
              rw [hvon] at v2 hsu
              have y0 := (bely.cell (p := ⟨bx, 0, none⟩) yl).trans Y.out.1
              have y1 := (bely.cell (p := ⟨bx, 1, none⟩) yl).trans Y.out.2.1
              have y2 := (bely.cell (p := ⟨bx, 2, none⟩) yl).trans Y.out.2.2
              have yl2 : bx < wy.heap.size := by omega
              have gw : IntKind.i64.wrap ((g : Int) + 1) = (g : Int) + 1 := IntWalk.i64_in _ (by omega)
              have HBy := Lib.hid bely
              have HSu2 := Lib.hid hsu
              have hgq' : (g : Int) < q := by omega
              clear hA hv hvm hsu hvid hvth hvon bely
              by_cases q1 : uid = vid
              · subst q1
                by_cases q2 : uth ≤ vth
                · cases von with
                  | false =>
                    clear HSu2
                    go_wp2_with fail
                    go_roundw
                    case rel => exact ⟨g + 1, by omega, by go_num, HBy.out.trans ((Below.refl _ _).alloc szy _)⟩
                    case measure => simp [intOf]; omega
                  | true =>
                    have hon : uon = true := HSu2.out rfl q2 rfl
                    subst hon
                    go_wp2_with fail
                    go_roundw
                    case rel => exact ⟨g + 1, by omega, by go_num, HBy.out.trans ((Below.refl _ _).alloc szy _)⟩
                    case measure => simp [intOf]; omega
                · have q2' : decide (uth ≤ vth) = false := by simp; omega
                  have q3 : vth < uth := by omega
                  clear HSu2
                  go_wp2_with fail
                  go_roundw
                  case rel => exact ⟨g + 1, by omega, by go_num, HBy.out.trans ((Below.refl _ _).alloc szy _)⟩
                  case measure => simp [intOf]; omega
              · have qs := str_ne q1
                clear HSu2 q1
                go_wp2_with fail
                go_roundw
                case rel => exact ⟨g + 1, by omega, by go_num, HBy.out.trans ((Below.refl _ _).alloc szy _)⟩
                case measure => simp [intOf]; omega
            · obtain rfl : q = g := by omega
              have HBy := Lib.hid (HB6.out.trans (bely.mono z6))
              clear bely
              go_wp2_with fail
              go_roundw
              case rel => exact ⟨j + 1, by omega, by go_num, HBy.out⟩
              case measure => simp [intOf]; omega
        · obtain rfl : q = j := by omega
          have HBx := Lib.hid belx
          clear belx
          go_wp2_with fail
          go_roundw
          case rel => exact ⟨k + 1, s', f4, by omega, by go_num, R5.out.below HBx.out, HOk2.out, F4.out, B5.out.trans (HBx.out.mono (by have := B5.out.size; omega))⟩
          case measure => simp [intOf]; omega
    · obtain rfl : n = k := by omega
      have HBe := Lib.hid bel
      clear hrep hok hf bel
      go_wp2_with fail
      go_ret
      exact ⟨rfl, HBe.out⟩
end Go.Proofs.Ytpomdnglknbanaa

import Derived.Test.YtpomdnglknbanaaKs
import Derived.Deep.DeepCutAuto
set_option linter.unusedSimpArgs false
set_option linter.unusedVariables false
namespace Go.Proofs.Ytpomdnglknbanaa
open Go Go.RowKit
set_option maxRecDepth 100000 in
set_option maxHeartbeats 16000000 in
theorem nodeTrust_walk (e0 l0 : Int) (a : Option Addr) (len cap : Nat) (Z : List (List Int)) (w : World) (_ : (Lit.int .i64 e0).wf = true) (_ : (Lit.int .i64 l0).wf = true) (hr : IsRows w a len Z) (hc : len ≤ cap ∧ cap ≤ maxLen) :
    Calls Try.prog 10 #[.int .i64 e0, .int .i64 l0, .slice a len cap] w fun e w' => e = .returned (.bool true) ∧ Below w.heap.size w w' := by
  obtain ⟨hcp, hmx⟩ := hc
  unfold maxLen at hmx
  obtain ⟨n, hn⟩ : ∃ n : Nat, min len 80 = n := ⟨_, rfl⟩
  have hmin : min (len : Int) 80 = (n : Int) := by omega
  have hnl : n ≤ len := by omega
  have nl' : (n : Int) ≤ len := by omega
  have nc' : (n : Int) ≤ cap := by omega
  have hn80 : n ≤ 80 := by omega
  obtain ⟨E, hE⟩ : ∃ E, within e0 50 = E - 1 := ⟨within e0 50 + 1, by omega⟩
  obtain ⟨L, hL⟩ : ∃ L, within l0 20 = L - 1 := ⟨within l0 20 + 1, by omega⟩
  have b1 := within_bd e0 (n := 50) (by omega)
  have b2 := within_bd l0 (n := 20) (by omega)
  have HOne := Lib.hid (fun w' => one_ok e0 l0 E L w' hE hL)
  have HOk := Lib.hid (oneS_ok (E := E) (L := L) ⟨by omega, by omega⟩ ⟨by omega, by omega⟩)
  have HR := Lib.hid hr
  have HB := Lib.hid (fun w' => nbegun_ok w')
  clear hr hn hE hL b1 b2
  go_enter Try.func10, Try.ntmps10
  go_wp2_with fail
  refine (HB.out w).mono ?_
  rintro e w1 ⟨rfl, hb1⟩
  have HB1 := Lib.hid hb1
  have z1 := hb1.size
  clear hb1
  go_wp2_with fail
  refine (HOne.out w1).mono ?_
  rintro e w2 ⟨b, f0, rfl, rep2, hf2, hb2⟩
  have R2 := Lib.hid rep2
  have HF2 := Lib.hid hf2
  have HB2 := Lib.hid (HB1.out.trans (hb2.mono z1))
  clear rep2 hf2 hb2
  go_wp2_with fail
  go_loopw [25] (fun i wr => ∃ (k : Nat) (s : NSt) (f : Nat → Prop), k ≤ n ∧ i = .int .i64 k ∧ NRep wr b s f ∧ AOK E L (60 * k) s ∧ (∀ x, f x → w.heap.size ≤ x) ∧ Below w.heap.size w wr) (fun i _ => n - (intOf i).toNat)
  case atStart => exact ⟨0, _, f0, Nat.zero_le _, rfl, R2.out, HOk.out, fun x hx => Nat.le_trans z1 (HF2.out x hx), HB2.out⟩
  case round =>
    obtain ⟨k, s, f, hk, rfl, hrep, hok, hf, bel⟩ := hrel
    by_cases hlt : k < n
    · obtain ⟨rb, off, A, C, rfl, rc, hin⟩ := rows_at HR.out (show k < len by omega) bel
      obtain ⟨l, hl⟩ : ∃ l, Z.getD k [] = l := ⟨_, rfl⟩
      rw [hl] at rc hin
      obtain ⟨m, hm⟩ : ∃ m, l.length = m := ⟨_, rfl⟩
      rw [hm] at rc hin
      obtain ⟨x0, hx0⟩ : ∃ x, l.getD 0 0 = x := ⟨_, rfl⟩
      obtain ⟨x1, hx1⟩ : ∃ x, l.getD 1 0 = x := ⟨_, rfl⟩
      have d1 := within_bd x1 (n := 4) (by omega)
      obtain ⟨a0, ha0⟩ : ∃ x, within x0 5 = x := ⟨_, rfl⟩
      obtain ⟨q, hq⟩ : ∃ q : Nat, within x1 4 = q := ⟨(within x1 4).toNat, by omega⟩
      obtain ⟨hd, hhd⟩ : ∃ h, (a0 == 1) = h := ⟨_, rfl⟩
      obtain ⟨id, hid⟩ : ∃ x, nmK (q : Int) = x := ⟨_, rfl⟩
      have q4 : q < 4 := by omega
      have q4' : (q : Int) < 4 := by omega
      have kw : IntKind.i64.wrap ((k : Int) + 1) = (k : Int) + 1 := IntWalk.i64_in _ (by omega)
      have HIn := Lib.hid hin
      have HTr := Lib.hid (fun x (hx : x ∈ (askL s l).2) => ask_trust hok (nmK_ok _) (by omega) (askL_ask s l) hx)
      rw [hx0, hx1, ha0, hq, hid] at HTr
      have HAs := Lib.hid (fun w' (h : NRep w' b s f) hi => asked_ok b s f m C A l w' h hok (by omega) hi)
      have HOk2 := Lib.hid (askL_ok hok (by omega) l)
      obtain ⟨N, hN⟩ : ∃ N, (askL s l).2 = N := ⟨_, rfl⟩
      obtain ⟨s', hs'⟩ : ∃ s', (askL s l).1 = s' := ⟨_, rfl⟩
      rw [hN] at HTr
      rw [hN, hs'] at HAs
      rw [hs'] at HOk2
      have HRep := Lib.hid hrep
      have HF := Lib.hid hf
      have HBe := Lib.hid bel
      have HL := Lib.hid (And.intro hm (And.intro hx0 hx1))
      have HA0 := Lib.hid ha0
      have HQ := Lib.hid hq
      have HId := Lib.hid hid
      have HHd := Lib.hid hhd
      have sz0 := bel.size
      clear hl hm hx0 hx1 ha0 hq hhd hid hin hok hN hs' hrep hf bel d1
      go_upto_region 7 with fail
      go_cut [10, 25] (fun h i wc => h = .bool hd ∧ i = .int .i64 k ∧ wc = wr)
      case first =>
        by_cases h0 : 0 < m
        · obtain ⟨b2, o2, rfl, hb2, hc2⟩ := HIn.out.1.at (by omega)
          have c0 := hc2 0 (by omega)
          rw [HL.out.2.1, Nat.add_zero] at c0
          have h0' : (0 : Int) < m := by omega
          clear hc2
          go_wp2_with fail
          refine (within_same x0 5 a0 wr (by omega) (by omega) HA0.out).mono ?_
          rintro e w' ⟨rfl, rfl⟩
          go_wp2_with fail
          go_meet
          case rel => exact ⟨by rw [← HHd.out], rfl, rfl⟩
        · have hx00 : x0 = 0 := by rw [← HL.out.2.1, List.getD_eq_getElem?_getD, List.getElem?_eq_none (by rw [HL.out.1]; omega)]; rfl
          have hdf := Lib.hid (show (false : Bool) = hd by
            rw [← HHd.out, ← HA0.out, hx00]; decide)
          obtain rfl : m = 0 := by omega
          clear hx00
          go_wp2_with fail
          go_meet
          case rel => exact ⟨by rw [← hdf.out], rfl, rfl⟩
      case rest =>
        obtain ⟨rfl, rfl, hw⟩ := hcut
        have hw' := hw.symm
        subst hw'
        clear hw
        go_upto_if 41 with fail
        go_cut [11, 25] (fun h i wc => h = .string id ∧ i = .int .i64 k ∧ Below wr.heap.size wr wc)
        case first =>
          by_cases h1 : 1 < m
          · obtain ⟨b2, o2, rfl, hb2, hc2⟩ := HIn.out.1.at (by omega)
            have c0 := hc2 1 (by omega)
            rw [HL.out.2.2] at c0
            have h1' : (1 : Int) < m := by omega
            clear hc2
            have qa := alloc_cells
            have qf := alloc_frozens
            go_wp2_with fail
            refine (within_same x1 4 q _ (by omega) (by omega) HQ.out).mono ?_
            rintro e w' ⟨rfl, rfl⟩
            go_wp2_with fail
            go_meet
            case rel => exact ⟨nm_list (by omega) HId.out, rfl, (by repeat (first | (with_reducible exact Below.refl _ _) | ((with_reducible refine Below.alloc ?_ ?_ _); rotate_left; (next => ((try dsimp only); (try simp only [World.size_alloc, World.size_setCell, World.size_drew]); omega))) | ((with_reducible refine Below.setCell ?_ ?_ _); rotate_left; (next => ((try dsimp only); (try simp only [World.size_alloc, World.size_setCell, World.size_drew]); omega))) | (with_reducible refine Below.drew ?_) | (refine Below.trans ?_ (by assumption))))⟩
          · have hx1 : x1 = 0 := by rw [← HL.out.2.2, List.getD_eq_getElem?_getD, List.getElem?_eq_none (by rw [HL.out.1]; omega)]; rfl
            have hid : (⟨#[98]⟩ : ByteArray) = id := by
              have h1 := HQ.out
              rw [hx1] at h1
              have h2 : q = 0 := by have : within 0 4 = 0 := by decide
                                    omega
              rw [← HId.out, h2]; rfl
            have HI := Lib.hid hid
            have h1' : ¬ (1 : Int) < m := by omega
            clear hx1 hid
            go_wp2_with fail
            go_meet
            case rel => exact ⟨by rw [← HI.out], rfl, Below.refl _ _⟩
        case rest =>
          obtain ⟨rfl, rfl, hb3⟩ := hcut
          have z3 := hb3.size
          have HB3 := Lib.hid (HBe.out.trans (hb3.mono sz0))
          have R3 := Lib.hid (HRep.out.below hb3)
          have I3 := Lib.hid (HIn.out.below hb3)
          clear hb3
          go_wp2_with fail
          refine (HAs.out wc R3.out I3.out).mono ?_
          rintro e w4 ⟨A', c', mm, rfl, own, rep, hmm, _, kept⟩
          have NR := Lib.hid (noteRow_own own rfl)
          have pb := own_le own
          have R4 := Lib.hid rep
          have B4 := Lib.hid (HB3.out.trans (kept.below (by omega) HF.out))
          have F4 := Lib.hid (fun x (hx : ext f wc.heap.size mm x) => (show w.heap.size ≤ x from hx.elim (HF.out x) (fun h => by omega)))
          have z4 := kept.size
          obtain ⟨p, hp⟩ : ∃ p, N.length = p := ⟨_, rfl⟩
          rw [hp] at NR pb
          have HP := Lib.hid hp
          rw [hp]
          clear own rep kept hp
          go_wp2_with fail
          go_loopw [53] (fun i wx => ∃ j : Nat, j ≤ p ∧ i = .int .i64 j ∧ Below w4.heap.size w4 wx) (fun i _ => p - (intOf i).toNat)
          case atStart => exact ⟨0, Nat.zero_le _, rfl, Below.refl _ _⟩
          case round =>
            obtain ⟨j, hj, rfl, belx⟩ := hrel
            have szx := belx.size
            by_cases hjp : j < p
            · obtain ⟨bn, on, rfl, _, n0, n1, n2⟩ := (NR.out.below belx).at hjp
              obtain ⟨x, hx⟩ : ∃ x, N.getD j default = x := ⟨_, rfl⟩
              rw [hx] at n0 n1 n2
              have hxm : x ∈ N := by rw [← hx]; exact getD_mem (by have := HP.out; omega)
              have hcase := HTr.out x hxm
              have jw : IntKind.i64.wrap ((j : Int) + 1) = (j : Int) + 1 := IntWalk.i64_in _ (by omega)
              obtain ⟨sus, hsus⟩ : ∃ v, x.sus = v := ⟨_, rfl⟩
              obtain ⟨xid, hxid⟩ : ∃ v, x.id = v := ⟨_, rfl⟩
              rw [hsus] at n2 hcase
              rw [hxid] at n0 hcase
              have HBx := Lib.hid belx
              have qa := alloc_cells
              have qf := alloc_frozens
              have hlt' : (j : Int) < p := by omega
              clear hx hxm hsus hxid belx
              rcases hcase with ⟨rfl, hne⟩ | ⟨rfl, he, rfl⟩
              · have hh : hd = false := by rw [← HHd.out]; simp [hne]
                subst hh
                clear hne
                go_wp2_with fail
                go_roundw
                case rel => exact ⟨j + 1, by omega, by go_num, HBx.out.trans ((Below.refl _ _).alloc szx _)⟩
                case measure => simp [intOf]; omega
              · have hh : hd = true := by rw [← HHd.out]; simp [he]
                subst hh
                clear he
                go_wp2_with fail
                go_roundw
                case rel => exact ⟨j + 1, by omega, by go_num, HBx.out.trans ((Below.refl _ _).alloc szx _)⟩
                case measure => simp [intOf]; omega
            · obtain rfl : p = j := by omega
              have HBx := Lib.hid belx
              clear belx
              go_wp2_with fail
              go_roundw
              case rel => exact ⟨k + 1, s', _, by omega, by go_num, R4.out.below HBx.out, by have := HOk2.out; rw [show (60 : Int) * ((k + 1 : Nat) : Int) = 60 * k + 60 by omega]; exact this, F4.out, B4.out.trans (HBx.out.mono (by have := B4.out.size; omega))⟩
              case measure => simp [intOf]; omega
    · obtain rfl : n = k := by omega
      have HBe := Lib.hid bel
      clear hrep hok hf bel
      go_wp2_with fail
      go_ret
      exact ⟨rfl, HBe.out⟩
end Go.Proofs.Ytpomdnglknbanaa

import Derived.Test.YtpomdnglknbanaaKt
import Derived.Test.YtpomdnglknbanaaKp
set_option linter.unusedSimpArgs false
set_option linter.unusedVariables false
namespace Go.Proofs.Ytpomdnglknbanaa
open Go Go.RowKit
theorem tick_later {E L T g : Int} {s : NSt} (h : AOK E L T s) (hg : 1 ≤ g ∧ g ≤ 60) (hT : T ≤ 1000000) (x : ByteArray) : levN s x ≤ levN (tickF s g).1 x := by
  have h2 := h.pre.now
  exact lev_later (t := (tickF s g).1) h.pre.ok rfl rfl (by show s.now ≤ s.now + g; omega) (by show s.now + g ≤ _; omega) x
theorem AOK.has3 {E L T : Int} {s : NSt} (h : AOK E L T s) {id : ByteArray} (hid : id = nB ∨ id = nC ∨ id = nD) : has s.peers id = true := by
  refine (has_iff h.pre.ok.tab.order id).2 ?_
  have hm : id ∈ s.peers.map (·.id) := by rw [h.pre.ids]; rcases hid with rfl | rfl | rfl <;> simp
  obtain ⟨p, hp, e⟩ := List.mem_map.1 hm
  exact ⟨p, hp, e⟩
theorem ofK_cases (k : Nat) : ofK k = nB ∨ ofK k = nC ∨ ofK k = nD := by
  unfold ofK
  split
  · exact .inl rfl
  · split
    · exact .inr (.inl rfl)
    · exact .inr (.inr rfl)
theorem three_list {q : Nat} {id : ByteArray} (hq : q < 3) (hid : ofK q = id) : [Value.string ⟨#[98]⟩, Value.string ⟨#[99]⟩, Value.string ⟨#[100]⟩][q] = Value.string id := by
  subst hid
  rcases (show q = 0 ∨ q = 1 ∨ q = 2 by omega) with rfl | rfl | rfl <;> simp [ofK, nB, nC, nD]
set_option maxRecDepth 100000 in
set_option maxHeartbeats 16000000 in
theorem nodeLater_walk (e0 l0 : Int) (a : Option Addr) (len cap : Nat) (Z : List (List Int)) (ta : Option Addr) (tl tc : Nat) (ts : List Int) (w : World) (_ : (Lit.int .i64 e0).wf = true) (_ : (Lit.int .i64 l0).wf = true) (hr : IsRows w a len Z) (hc : len ≤ cap ∧ cap ≤ maxLen) (ht : InRow w ta tl tc ts) :
    Calls Try.prog 11 #[.int .i64 e0, .int .i64 l0, .slice a len cap, .slice ta tl tc] w fun e w' => e = .returned (.bool true) ∧ Below w.heap.size w w' := by
  obtain ⟨htr, htc, htm, htn⟩ := ht
  unfold maxLen at htm
  obtain ⟨tn, htn'⟩ : ∃ n : Nat, min tl 20 = n := ⟨_, rfl⟩
  have tmin : min (tl : Int) 20 = (tn : Int) := by omega
  have tnl : tn ≤ tl := by omega
  have tl' : (tn : Int) ≤ tl := by omega
  have tc' : (tn : Int) ≤ tc := by omega
  have tn20 : tn ≤ 20 := by omega
  have HTR := Lib.hid htr.each
  clear htr htn htn'
  have hmm := @run_makeMap Try.prog
  obtain ⟨hcp, hmx⟩ := hc
  unfold maxLen at hmx
  obtain ⟨n, hn⟩ : ∃ n : Nat, min len 40 = n := ⟨_, rfl⟩
  have hmin : min (len : Int) 40 = (n : Int) := by omega
  have hnl : n ≤ len := by omega
  have nl' : (n : Int) ≤ len := by omega
  have nc' : (n : Int) ≤ cap := by omega
  have hn80 : n ≤ 40 := by omega
  obtain ⟨E, hE⟩ : ∃ E, within e0 50 = E - 1 := ⟨within e0 50 + 1, by omega⟩
  obtain ⟨L, hL⟩ : ∃ L, within l0 20 = L - 1 := ⟨within l0 20 + 1, by omega⟩
  have b1 := within_bd e0 (n := 50) (by omega)
  have b2 := within_bd l0 (n := 20) (by omega)
  have HOne := Lib.hid (fun w' => one_ok e0 l0 E L w' hE hL)
  have HOk := Lib.hid (oneS_ok (E := E) (L := L) ⟨by omega, by omega⟩ ⟨by omega, by omega⟩)
  have HEL := Lib.hid (show (1 ≤ E ∧ E ≤ 50) ∧ (1 ≤ L ∧ L ≤ 20) by omega)
  have HR := Lib.hid hr
  have HB := Lib.hid (fun w' => nbegun_ok w')
  clear hr hn hE hL b1 b2
  go_enter Try.func11, Try.ntmps11
  go_wp2_with fail
  refine (HB.out w).mono ?_
  rintro e w1 ⟨rfl, hb1⟩
  have HB1 := Lib.hid hb1
  have z1 := hb1.size
  clear hb1
  go_wp2_with fail
  refine (HOne.out w1).mono ?_
  rintro e w2 ⟨b, f0, rfl, rep2, hf2, hb2⟩
  have R2 := Lib.hid rep2
  have HF2 := Lib.hid (fun x hx => Nat.le_trans z1 (hf2 x hx))
  have HB2 := Lib.hid (HB1.out.trans (hb2.mono z1))
  clear rep2 hf2 hb2
  go_wp2_with fail
  go_loopw [33] (fun i wr => ∃ (k : Nat) (s : NSt) (f : Nat → Prop), k ≤ n ∧ i = .int .i64 k ∧ NRep wr b s f ∧ AOK E L (60 * k) s ∧ (∀ x, f x → w.heap.size ≤ x) ∧ Below w.heap.size w wr) (fun i _ => n - (intOf i).toNat)
  case atStart => exact ⟨0, _, f0, Nat.zero_le _, rfl, R2.out, HOk.out, HF2.out, HB2.out⟩
  case round =>
    obtain ⟨k, s, f, hk, rfl, hrep, hok, hf, bel⟩ := hrel
    have sz0 := bel.size
    by_cases hlt : k < n
    · obtain ⟨rb, off, A, C, rfl, rc, hin⟩ := rows_at HR.out (show k < len by omega) bel
      obtain ⟨l, hl⟩ : ∃ l, Z.getD k [] = l := ⟨_, rfl⟩
      rw [hl] at rc hin
      obtain ⟨m, hm⟩ : ∃ m, l.length = m := ⟨_, rfl⟩
      rw [hm] at rc hin
      have kw : IntKind.i64.wrap ((k : Int) + 1) = (k : Int) + 1 := IntWalk.i64_in _ (by omega)
      have HIn := Lib.hid hin
      have HAs := Lib.hid (fun w' (h : NRep w' b s f) hi => asked_ok b s f m C A l w' h hok (by omega) hi)
      have HOk2 := Lib.hid (askL_ok hok (by omega) l)
      rw [show (60 : Int) * k + 60 = 60 * ((k + 1 : Nat) : Int) by omega] at HOk2
      have HAk := Lib.hid (askL_ask s l)
      have HOk1 := Lib.hid hok
      obtain ⟨N, hN⟩ : ∃ N, (askL s l).2 = N := ⟨_, rfl⟩
      obtain ⟨s', hs'⟩ : ∃ s', (askL s l).1 = s' := ⟨_, rfl⟩
      rw [hN, hs'] at HAs HAk
      rw [hs'] at HOk2
      have HRep := Lib.hid hrep
      have HF := Lib.hid hf
      have HBe := Lib.hid bel
      have HL := Lib.hid hm
      clear hl hm hin hok hN hs' hrep hf bel
      go_wp2_with fail
      refine (HAs.out wr HRep.out HIn.out).mono ?_
      rintro e w4 ⟨A', c', mm, rfl, own, rep, hmm, hmm2, kept⟩
      have OW4 := Lib.hid own
      have R4 := Lib.hid rep
      have B4 := Lib.hid (HBe.out.trans (kept.below (by omega) HF.out))
      have F4 := Lib.hid (fun x (hx : ext f wr.heap.size mm x) => (show w.heap.size ≤ x from hx.elim (HF.out x) (fun h => by omega)))
      have z4 := kept.size
      have pb := own_le own
      obtain ⟨p, hp⟩ : ∃ p, N.length = p := ⟨_, rfl⟩
      have HP := Lib.hid hp
      rw [hp] at OW4 pb ⊢
      obtain ⟨f4, hf4⟩ : ∃ g, ext f wr.heap.size mm = g := ⟨_, rfl⟩
      rw [hf4] at R4 F4
      clear own rep kept hp hf4
      go_wp2_with fail
      go_roundw
      case rel => first | exact ⟨k + 1, s', f4, by omega, by go_num, R4.out, HOk2.out, F4.out, B4.out⟩ | ((repeat apply Exists.intro); exact ⟨⟨k + 1, s', f4, by omega, by go_num, R4.out, HOk2.out, F4.out, B4.out⟩, rfl⟩)
      case measure => simp [intOf]; omega
    · obtain rfl : n = k := by omega
      have HRep := Lib.hid hrep
      have HOk1 := Lib.hid hok
      have HF := Lib.hid hf
      have HBe := Lib.hid bel
      clear hrep hok hf bel
      go_wp2_with fail
      have M0 := Lib.hid (MapI.made wr)
      have RM := Lib.hid (HRep.out.below ((Below.refl _ _).alloc (Nat.le_refl _) (.map #[] 0)))
      have BM := Lib.hid (HBe.out.alloc sz0 (.map #[] 0))
      have zM : (wr.alloc (.map #[] 0)).heap.size = wr.heap.size + 1 := by simp
      have HFl := Lib.hid HRep.out.lt
      obtain ⟨B, hB⟩ : ∃ B, wr.heap.size = B := ⟨_, rfl⟩
      have HBB := Lib.hid hB
      rw [hB] at M0 zM ⊢
      generalize wr.alloc (.map #[] 0) = w3 at M0 RM BM zM ⊢
      clear hB hmm
      go_loopw [48] (fun i wx => ∃ (k m : Nat) (s : NSt) (f : Nat → Prop) (G : ByteArray → Int), k ≤ tn ∧ i = .int .i64 k ∧ NRep wx b s f ∧ AOK E L (60 * n + 60 * k) s ∧ (∀ x, f x → w.heap.size ≤ x) ∧ ¬ f B ∧ MapI wx B m G ∧ m ≤ 3 * k ∧ (∀ x, G x ≤ levN s x) ∧ Below w.heap.size w wx) (fun i _ => tn - (intOf i).toNat)
      case atStart => exact ⟨0, 0, s, f, _, Nat.zero_le _, rfl, RM.out, by have := HOk1.out; simpa using this, HF.out, fun h => by have := HFl.out B h; have := HBB.out; omega, M0.out, by omega, fun x => (lev_bd HOk1.out.pre.ok x).1, BM.out⟩
      case round =>
        obtain ⟨wx, rfl⟩ : ∃ z : World, z = wr := ⟨_, rfl⟩
        clear M0 RM BM zM HRep HOk1 HF HBe HFl
        obtain ⟨k, m, s1, f1, G, hk, rfl, hrep, hok, hf, hnB, hM, hm, hG, bel⟩ := hrel
        have szx := bel.size
        by_cases hlt : k < tn
        · have hktl : k < tl := by omega
          obtain ⟨bkx, offx, hAx, ltx, hrx⟩ := HTR.out k hktl
          subst hAx
          replace hrx := (bel.cell (p := ⟨bkx, offx + k, none⟩) ltx).trans hrx
          obtain ⟨x, hvx, hxx⟩ := name_num hrx
          have HX := Lib.hid hvx
          clear hvx hrx
          have b1 := within_bd x (n := 60) (by omega)
          obtain ⟨y, e_y⟩ : ∃ z_, within x 60 = z_ := ⟨_, rfl⟩
          rw [e_y] at b1
          have Hy := Lib.hid e_y
          clear e_y
          obtain ⟨g, hg⟩ : ∃ g, 1 + y = g := ⟨_, rfl⟩
          have vg : IntKind.i64.wrap (1 + y) = g := by rw [hg]; exact IntWalk.i64_in _ (by omega)
          have gb : 1 ≤ g ∧ g ≤ 60 := by omega
          have kw : IntKind.i64.wrap ((k : Int) + 1) = (k : Int) + 1 := IntWalk.i64_in _ (by omega)
          have HTk := Lib.hid (atick (g := g) wx hrep hok.pre gb (by omega))
          have HOk2 := Lib.hid (show AOK E L (60 * n + 60 * ((k + 1 : Nat) : Int)) (tickF s1 g).1 from ((hok.pre.tick gb (by omega)).tell).later (by omega))
          have HG2 := Lib.hid (fun x => Int.le_trans (hG x) (tick_later hok gb (by omega) x))
          obtain ⟨s2, hs2⟩ : ∃ s2, (tickF s1 g).1 = s2 := ⟨_, rfl⟩
          rw [hs2] at HTk HOk2 HG2
          have HLv := Lib.hid (fun id (hid : id = nB ∨ id = nC ∨ id = nD) w' (h : NRep w' b s2 f1) => nlevel_ok b s2 f1 id w' h HOk2.out.pre.ok (levN s2 id) 0 rfl (by rw [HOk2.out.has3 hid]; rfl))
          have HF := Lib.hid hf
          have HN := Lib.hid hnB
          have HM := Lib.hid hM
          have HBe := Lib.hid bel
          have Bl := hM.lt
          have HLb := Lib.hid (fun id => lev_bd HOk2.out.pre.ok id)
          clear hg hrep hok hf hnB hM hG bel hs2
          go_wp2_with fail
          refine (within_any x 60 y _ (by omega) (by omega) Hy.out).mono ?_
          rintro e w' ⟨rfl, rfl⟩
          go_wp2_with fail
          refine HTk.out.mono ?_
          rintro e w4 ⟨v4, A4, c4, m4, rfl, _, _, _, rep4, k4⟩
          have R4 := Lib.hid rep4
          have M4 := Lib.hid (HM.out.same (k4.block B Bl HN.out))
          have B4 := Lib.hid (HBe.out.trans (k4.below szx HF.out))
          have z4 := k4.size
          clear rep4 k4
          go_wp2_with fail
          have str5 : ∀ k : Nat, k < 3 → (w4.alloc (.cells #[.string ⟨#[98]⟩, .string ⟨#[99]⟩, .string ⟨#[100]⟩] 9)).cell? ⟨w4.heap.size, k, none⟩ = some (.string (ofK k)) := fun k hk => by
            rcases (show k = 0 ∨ k = 1 ∨ k = 2 by omega) with rfl | rfl | rfl <;> simp [alloc_cells] <;> rfl
          have HS5 := Lib.hid str5
          have ab : Below w4.heap.size w4 (w4.alloc (.cells #[.string ⟨#[98]⟩, .string ⟨#[99]⟩, .string ⟨#[100]⟩] 9)) := (Below.refl _ _).alloc (Nat.le_refl _) _
          have R5 := Lib.hid (R4.out.below ab)
          have M5 := Lib.hid (M4.out.same (ab.block B (by omega)))
          have B5 := Lib.hid (B4.out.trans (ab.mono B4.out.size))
          have z5 : (w4.alloc (.cells #[.string ⟨#[98]⟩, .string ⟨#[99]⟩, .string ⟨#[100]⟩] 9)).heap.size = w4.heap.size + 1 := by simp
          have HFl := Lib.hid R4.out.lt
          clear str5 ab
          generalize w4.alloc (.cells #[.string ⟨#[98]⟩, .string ⟨#[99]⟩, .string ⟨#[100]⟩] 9) = w5 at HS5 R5 M5 B5 z5 ⊢
          obtain ⟨SB, hSB⟩ : ∃ SB, w4.heap.size = SB := ⟨_, rfl⟩
          have HSB := Lib.hid (show w.heap.size ≤ SB ∧ B < SB ∧ (∀ x, f1 x → x < SB) from ⟨by have := B4.out.size; omega, by omega, fun x hx => by have := HFl.out x hx; omega⟩)
          rw [hSB] at HS5 z5 ⊢
          clear hSB z4
          go_loopw [69] (fun i wy => ∃ (j m : Nat) (G : ByteArray → Int), j ≤ 3 ∧ i = .int .i64 j ∧ NRep wy b s2 f1 ∧ MapI wy B m G ∧ m ≤ 3 * k + j ∧ (∀ x, G x ≤ levN s2 x) ∧ Below w.heap.size w wy ∧ (∀ q : Nat, q < 3 → wy.cell? ⟨SB, q, none⟩ = some (.string (ofK q))) ∧ SB < wy.heap.size) (fun i _ => 3 - (intOf i).toNat)
          case atStart => exact ⟨0, m, G, Nat.zero_le _, rfl, R5.out, M5.out, by omega, HG2.out, B5.out, HS5.out, by omega⟩
          case round =>
            obtain ⟨wy, rfl⟩ : ∃ z : World, z = wr := ⟨_, rfl⟩
            obtain ⟨j, m2, G2, hj, rfl, hrep, hM, hm2, hG, bel, hstr, hSl⟩ := hrel
            have szy := bel.size
            by_cases hj3 : j < 3
            · have kc := hstr j hj3
              have hcs := ofK_cases j
              have hsz : (ofK j).size ≤ maxLen := by have := (ofK_ok j).2.1; rw [byts_len] at this; unfold maxLen; omega
              obtain ⟨id, hid⟩ : ∃ id, ofK j = id := ⟨_, rfl⟩
              rw [hid] at kc hcs hsz
              have HLid := Lib.hid (HLv.out id hcs wy hrep)
              obtain ⟨lvl, hlvl⟩ : ∃ v, levN s2 id = v := ⟨_, rfl⟩
              have lb := HLb.out id
              rw [hlvl] at HLid lb
              obtain ⟨gi, hgi⟩ : ∃ v, G2 id = v := ⟨_, rfl⟩
              have hgl := hG id
              rw [hgi, hlvl] at hgl
              have dl : decide (lvl < gi) = false := by simp; omega
              have dl' : ¬ lvl < gi := by omega
              have jw : IntKind.i64.wrap ((j : Int) + 1) = (j : Int) + 1 := IntWalk.i64_in _ (by omega)
              have hj3' : (j : Int) < 3 := by omega
              have HR6 := Lib.hid hrep
              have HM6 := Lib.hid hM
              have HSz := Lib.hid hsz
              have HGi := Lib.hid hgi
              have HLl := Lib.hid hlvl
              have HG6 := Lib.hid hG
              have HB6 := Lib.hid bel
              have HSt := Lib.hid hstr
              have Bl6 := hM.lt
              clear hcs hid hlvl hgi hgl hsz hrep hM hG bel hstr
              go_wp2_with fail
              refine HLid.out.mono ?_
              rintro e w7 ⟨rfl, hb7⟩
              have M7 := Lib.hid (HM6.out.same (hb7.block B Bl6))
              have R7 := Lib.hid (HR6.out.below hb7)
              have B7 := Lib.hid (HB6.out.trans (hb7.mono szy))
              have S7 := Lib.hid (fun q (hq : q < 3) => (hb7.cell (p := ⟨SB, q, none⟩) hSl).trans (HSt.out q hq))
              have z7 := hb7.size
              have hrun := M7.out.look HSz.out
              rw [HGi.out] at hrun
              clear hb7 kc
              go_wp2_with (at_mapUpdate; refine wpList_mapI rfl _ _ _ rfl rfl M7.out (by unfold maxLen; omega) id lvl rfl rfl HSz.out (i64_wf (by omega)) ?_)
              intro w8 hM8 hg8
              have z8 := hg8.size
              have R8 := Lib.hid (R7.out.same ⟨z8, fun x hx hfx => hg8.block x hx (fun e => by simp only [Option.some.injEq] at e; subst e; exact HN.out hfx)⟩)
              have M8 := Lib.hid hM8
              have S8 := Lib.hid (fun q (hq : q < 3) => (World.cell?_of_block (a := ⟨SB, q, none⟩) (hg8.block SB (by omega) (fun e => by simp only [Option.some.injEq] at e; have := HSB.out.2.1; omega))).trans (S7.out q hq))
              have B8 := Lib.hid (B7.out.grown hg8 B7.out.size (fun j hj => by simp only [Option.some.injEq] at hj; have := HBB.out; omega))
              clear hM8 hg8 hrun
              go_wp2_with fail
              go_roundw
              case rel =>
                refine ⟨j + 1, m2 + 1, _, by omega, by go_num, R8.out, M8.out, by omega, fun x => ?_, B8.out, S8.out, by omega⟩
                split
                · rename_i e; rw [e, HLl.out]; exact Int.le_refl _
                · exact HG6.out x
              case measure => simp [intOf]; omega
            · obtain rfl : j = 3 := by omega
              have HR6 := Lib.hid hrep
              have HM6 := Lib.hid hM
              have HG6 := Lib.hid hG
              have HB6 := Lib.hid bel
              clear hrep hM hG bel hstr
              go_wp2_with fail
              go_roundw
              case rel => exact ⟨k + 1, m2, s2, f1, G2, by omega, by go_num, HR6.out, HOk2.out, HF.out, HN.out, HM6.out, by omega, HG6.out, HB6.out⟩
              case measure => simp [intOf]; omega
        · obtain rfl : tn = k := by omega
          have HBe := Lib.hid bel
          clear hrep hok hf hnB hM hG bel
          go_wp2_with fail
          go_ret
          exact ⟨rfl, HBe.out⟩
end Go.Proofs.Ytpomdnglknbanaa

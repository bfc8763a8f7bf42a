import Derived.Test.YtpomdnglknbanaaKl
import Derived.Test.YtpomdnglknbanaaSp
import Derived.Deep.DeepCutAuto
import Derived.Test.YtpomdnglknbanaaFl
set_option linter.unusedSimpArgs false
set_option linter.unusedVariables false
namespace Go.Proofs.Ytpomdnglknbanaa
open Go Go.RowKit
theorem AOK.has3 {E L T : Int} {s : NSt} (h : AOK E L T s) {id : ByteArray} (hid : id = nB ∨ id = nC ∨ id = nD) : has s.peers id = true := by
  refine (has_iff h.pre.ok.tab.order id).2 ?_
  have hm : id ∈ s.peers.map (·.id) := by rw [h.pre.ids]; rcases hid with rfl | rfl | rfl <;> simp
  obtain ⟨p, hp, e⟩ := List.mem_map.1 hm
  exact ⟨p, hp, e⟩
theorem ofK_cases (k : Nat) : ofK k = nB ∨ ofK k = nC ∨ ofK k = nD := by
  unfold ofK
  split
  · exact .inl rfl
  · split
    · exact .inr (.inl rfl)
    · exact .inr (.inr rfl)
theorem AOK.len3 {E L T : Int} {s : NSt} (h : AOK E L T s) : s.peers.length = 3 := by have := congrArg List.length h.pre.ids; simpa using this
theorem three_list {q : Nat} {id : ByteArray} (hq : q < 3) (hid : ofK q = id) : [Value.string ⟨#[98]⟩, Value.string ⟨#[99]⟩, Value.string ⟨#[100]⟩][q] = Value.string id := by
  subst hid
  rcases (show q = 0 ∨ q = 1 ∨ q = 2 by omega) with rfl | rfl | rfl <;> simp [ofK, nB, nC, nD]
theorem row_one {w : World} {b : Nat} {x : Int} (h : w.cell? ⟨b, 0, none⟩ = some (.int .i64 x)) : Row w (some ⟨b, 0, none⟩) 1 [x] := by
  refine ⟨rfl, fun _ => ⟨b, 0, rfl, World.block_lt_of_cell? w _ h, fun k hk => ?_⟩⟩
  obtain rfl : k = 0 := by omega
  exact h
set_option maxRecDepth 100000 in
set_option maxHeartbeats 16000000 in
theorem nodeLeave_walk (e0 l0 : Int) (a : Option Addr) (len cap : Nat) (Z : List (List Int)) (k0 : Int) (w : World) (_ : (Lit.int .i64 e0).wf = true) (_ : (Lit.int .i64 l0).wf = true) (hr : IsRows w a len Z) (hc : len ≤ cap ∧ cap ≤ maxLen) (_ : (Lit.int .i64 k0).wf = true) :
    Calls Try.prog 20 #[.int .i64 e0, .int .i64 l0, .slice a len cap, .int .i64 k0] w fun e w' => e = .returned (.bool true) ∧ Below w.heap.size w w' := by
  obtain ⟨hcp, hmx⟩ := hc
  unfold maxLen at hmx
  obtain ⟨n, hn⟩ : ∃ n : Nat, min len 40 = n := ⟨_, rfl⟩
  have hmin : min (len : Int) 40 = (n : Int) := by omega
  have hnl : n ≤ len := by omega
  have nl' : (n : Int) ≤ len := by omega
  have nc' : (n : Int) ≤ cap := by omega
  have hn80 : n ≤ 40 := by omega
  obtain ⟨E, hE⟩ : ∃ E, within e0 50 = E - 1 := ⟨within e0 50 + 1, by omega⟩
  obtain ⟨L, hL⟩ : ∃ L, within l0 20 = L - 1 := ⟨within l0 20 + 1, by omega⟩
  have b1 := within_bd e0 (n := 50) (by omega)
  have b2 := within_bd l0 (n := 20) (by omega)
  have HOne := Lib.hid (fun w' => one_ok e0 l0 E L w' hE hL)
  have HOk := Lib.hid (oneS_ok (E := E) (L := L) ⟨by omega, by omega⟩ ⟨by omega, by omega⟩)
  have HEL := Lib.hid (show (1 ≤ E ∧ E ≤ 50) ∧ (1 ≤ L ∧ L ≤ 20) by omega)
  have HR := Lib.hid hr
  have HB := Lib.hid (fun w' => nbegun_ok w')
  clear hr hn hE hL b1 b2
  go_enter Try.func20, Try.ntmps20
  go_wp2_with fail
  refine (HB.out w).mono ?_
  rintro e w1 ⟨rfl, hb1⟩
  have HB1 := Lib.hid hb1
  have z1 := hb1.size
  clear hb1
  go_wp2_with fail
  refine (HOne.out w1).mono ?_
  rintro e w2 ⟨b, f0, rfl, rep2, hf2, hb2⟩
  have R2 := Lib.hid rep2
  have HF2 := Lib.hid (fun x hx => Nat.le_trans z1 (hf2 x hx))
  have HB2 := Lib.hid (HB1.out.trans (hb2.mono z1))
  clear rep2 hf2 hb2
  go_wp2_with fail
  go_loopw [28] (fun i wr => ∃ (k : Nat) (s : NSt) (f : Nat → Prop), k ≤ n ∧ i = .int .i64 k ∧ NRep wr b s f ∧ AOK E L (60 * k) s ∧ (∀ x, f x → w.heap.size ≤ x) ∧ Below w.heap.size w wr) (fun i _ => n - (intOf i).toNat)
  case atStart => exact ⟨0, _, f0, Nat.zero_le _, rfl, R2.out, HOk.out, HF2.out, HB2.out⟩
  case round =>
    obtain ⟨k, s, f, hk, rfl, hrep, hok, hf, bel⟩ := hrel
    have sz0 := bel.size
    by_cases hlt : k < n
    · obtain ⟨rb, off, A, C, rfl, rc, hin⟩ := rows_at HR.out (show k < len by omega) bel
      obtain ⟨l, hl⟩ : ∃ l, Z.getD k [] = l := ⟨_, rfl⟩
      rw [hl] at rc hin
      obtain ⟨m, hm⟩ : ∃ m, l.length = m := ⟨_, rfl⟩
      rw [hm] at rc hin
      have kw : IntKind.i64.wrap ((k : Int) + 1) = (k : Int) + 1 := IntWalk.i64_in _ (by omega)
      have HIn := Lib.hid hin
      have HAs := Lib.hid (fun w' (h : NRep w' b s f) hi => asked_ok b s f m C A l w' h hok (by omega) hi)
      have HOk2 := Lib.hid (askL_ok hok (by omega) l)
      rw [show (60 : Int) * k + 60 = 60 * ((k + 1 : Nat) : Int) by omega] at HOk2
      have HAk := Lib.hid (askL_ask s l)
      have HOk1 := Lib.hid hok
      obtain ⟨N, hN⟩ : ∃ N, (askL s l).2 = N := ⟨_, rfl⟩
      obtain ⟨s', hs'⟩ : ∃ s', (askL s l).1 = s' := ⟨_, rfl⟩
      rw [hN, hs'] at HAs HAk
      rw [hs'] at HOk2
      have HRep := Lib.hid hrep
      have HF := Lib.hid hf
      have HBe := Lib.hid bel
      have HL := Lib.hid hm
      clear hl hm hin hok hN hs' hrep hf bel
      go_wp2_with fail
      refine (HAs.out wr HRep.out HIn.out).mono ?_
      rintro e w4 ⟨A', c', mm, rfl, own, rep, hmm, hmm2, kept⟩
      have OW4 := Lib.hid own
      have R4 := Lib.hid rep
      have B4 := Lib.hid (HBe.out.trans (kept.below (by omega) HF.out))
      have F4 := Lib.hid (fun x (hx : ext f wr.heap.size mm x) => (show w.heap.size ≤ x from hx.elim (HF.out x) (fun h => by omega)))
      have z4 := kept.size
      have pb := own_le own
      obtain ⟨p, hp⟩ : ∃ p, N.length = p := ⟨_, rfl⟩
      have HP := Lib.hid hp
      rw [hp] at OW4 pb ⊢
      obtain ⟨f4, hf4⟩ : ∃ g, ext f wr.heap.size mm = g := ⟨_, rfl⟩
      rw [hf4] at R4 F4
      clear own rep kept hp hf4
      go_wp2_with fail
      go_roundw
      case rel => first | exact ⟨k + 1, s', f4, by omega, by go_num, R4.out, HOk2.out, F4.out, B4.out⟩ | ((repeat apply Exists.intro); exact ⟨⟨k + 1, s', f4, by omega, by go_num, R4.out, HOk2.out, F4.out, B4.out⟩, rfl⟩)
      case measure => simp [intOf]; omega
    · obtain rfl : n = k := by omega
      have HRep := Lib.hid hrep
      have HOk1 := Lib.hid hok
      have HF := Lib.hid hf
      have HBe := Lib.hid bel
      clear hrep hok hf bel
      go_wp2_with fail
      have b1 := within_bd k0 (n := 3) (by omega)
      obtain ⟨q, hq⟩ : ∃ q : Nat, within k0 3 = q := ⟨(within k0 3).toNat, by omega⟩
      rw [hq] at b1
      have q3 : q < 3 := by omega
      have q3' : (q : Int) < 3 := by omega
      have HQ := Lib.hid hq
      obtain ⟨id, hid⟩ : ∃ id, ofK q = id := ⟨_, rfl⟩
      have hcs := ofK_cases q
      have hok1 := ofK_ok q
      have hne := ofK_ne q
      rw [hid] at hcs hok1 hne
      have hyes := HOk1.out.has3 hcs
      have hl3 := HOk1.out.len3
      have HId := Lib.hid hid
      obtain ⟨s1, hs1⟩ : ∃ s1, leaveS s id = s1 := ⟨_, rfl⟩
      have ok1 : NOK s1 := by rw [← hs1]; exact HOk1.out.pre.ok.left id
      have no1 : has s1.peers id = false := by rw [← hs1]; exact drop_has HOk1.out.pre.ok.tab hyes
      have len1 : s1.peers.length = 2 := by rw [← hs1]; show (dropS s.peers id).length = 2; rw [drop_len hyes, hl3]
      have sub1 : idxS (hitI id) s1.subs = -1 := by rw [← hs1]; exact left_none s id
      have id1 : s1.id = nA := by rw [← hs1]; exact HOk1.out.pre.id
      have cap1 : s1.cap = 4 := by rw [← hs1]; exact HOk1.out.pre.cap
      obtain ⟨nw, hnw⟩ : ∃ v, s1.now = v := ⟨_, rfl⟩
      obtain ⟨s2, hs2⟩ : ∃ s2, ({ s1 with peers := addS (newP id s1.cap 9 s1.now) s1.peers } : NSt) = s2 := ⟨_, rfl⟩
      have ok2 : NOK s2 := by rw [← hs2]; exact ok1.add hok1 (by omega) no1 (by omega)
      have id2 : s2.id = nA := by rw [← hs2]; exact id1
      have now2 : s2.now = nw := by rw [← hs2]; exact hnw
      have pe2 : s2.peers = addS (newP id 4 9 nw) s1.peers := by rw [← hs2, cap1, hnw]
      have has2 : has s2.peers id = true := by rw [pe2]; exact addS_has (newP id 4 9 nw) s1.peers
      have get2 : s2.peers.getD (pos s2.peers id) default = newP id 4 9 nw := by
        rw [pe2]
        have h1 := addS_at (newP id 4 9 nw) s1.peers
        have h2 := addS_get (newP id 4 9 nw) s1.peers
        rw [show (newP id 4 9 nw).id = id from rfl] at h1 h2
        rw [h1]; exact h2
      have len2 : s2.peers.length = 3 := by rw [pe2, addS_len, len1]
      have HLv1 := Lib.hid (fun w' (h : NRep w' b s f) => nleave_ok delF_ok b s f id w' h HOk1.out.pre.ok hyes)
      rw [hs1] at HLv1
      have HLv2 := Lib.hid (fun g w' (h : NRep w' b s1 g) => nleave_none b s1 g id w' h ok1 no1)
      have HLev := Lib.hid (fun g w' (h : NRep w' b s1 g) => nlevel_ok b s1 g id w' h ok1 0 4 (lev_none no1) (by rw [no1]; rfl))
      have HSub := Lib.hid (fun g w' (h : NRep w' b s1 g) => nsubs_ok b s1 g w' h ok1)
      have HWa := Lib.hid (fun g w' (h : NRep w' b s1 g) => nwatch_ok b s1 g id 9 w' h ok1 (by rw [id1]; exact hne) hok1 (by omega) no1 (by omega))
      rw [hs2] at HWa
      have HPe := Lib.hid (fun g w' (h : NRep w' b s2 g) => npeers_ok b s2 g w' h ok2)
      have h8 := ok1.subs
      have HSub1 := Lib.hid sub1
      have HOk2 := Lib.hid (And.intro ok2 (And.intro id2 now2))
      have HGet := Lib.hid (And.intro has2 get2)
      have hfl := Lib.hid HRep.out.lt
      have R0 := Lib.hid HRep.out
      clear hq hid hcs hne hyes hl3 hs1 ok1 no1 len1 sub1 id1 cap1 hnw hs2 ok2 id2 now2 pe2 has2 get2 hok1
      have qa := alloc_cells
      have qf := alloc_frozens
      go_wp2_with fail
      refine (within_any k0 3 q _ (by omega) (by omega) HQ.out).mono ?_
      rintro e w' ⟨rfl, rfl⟩
      have hls := three_list q3 HId.out
      go_upto_region 10 with fail
      have ab : Below wr.heap.size wr ((wr.alloc (.cells #[.string ⟨#[98]⟩, .string ⟨#[99]⟩, .string ⟨#[100]⟩] 9)).alloc (.cells #[.string id] 9)) := ((Below.refl _ _).alloc (Nat.le_refl _) _).alloc (by simp) _
      have x3 : ((wr.alloc (.cells #[.string ⟨#[98]⟩, .string ⟨#[99]⟩, .string ⟨#[100]⟩] 9)).alloc (.cells #[.string id] 9)).cell? ⟨wr.heap.size + 1, 0, none⟩ = some (.string id) := by simp [qa]
      have z3 : ((wr.alloc (.cells #[.string ⟨#[98]⟩, .string ⟨#[99]⟩, .string ⟨#[100]⟩] 9)).alloc (.cells #[.string id] 9)).heap.size = wr.heap.size + 2 := by simp
      have R3 := Lib.hid (R0.out.below ab)
      have B3 := Lib.hid (HBe.out.trans (ab.mono sz0))
      generalize ((wr.alloc (.cells #[.string ⟨#[98]⟩, .string ⟨#[99]⟩, .string ⟨#[100]⟩] 9)).alloc (.cells #[.string id] 9)) = w3 at x3 z3 R3 B3 ⊢
      obtain ⟨bx, hbx⟩ : ∃ x, wr.heap.size + 1 = x := ⟨_, rfl⟩
      have HBx := Lib.hid (show w.heap.size ≤ bx ∧ ¬ f bx from ⟨by omega, fun h => by have := hfl.out bx h; omega⟩)
      rw [hbx] at x3 ⊢
      have l3 : bx < w3.heap.size := by omega
      clear ab hbx qa qf hls z3
      go_wp2_with fail
      refine (HLv1.out w3 R3.out).mono ?_
      rintro e w4 ⟨rfl, ⟨m4, rep4⟩, k4⟩
      have z4 := k4.size
      have x4 : w4.cell? ⟨bx, 0, none⟩ = some (.string id) := (World.cell?_of_block (a := ⟨bx, 0, none⟩) (k4.block bx l3 HBx.out.2)).trans x3
      have R4 := Lib.hid rep4
      have F4 := Lib.hid (fun x (hx : ext f w3.heap.size m4 x) => (show w.heap.size ≤ x ∧ x ≠ bx from hx.elim (fun h => ⟨HF.out x h, fun e => HBx.out.2 (e ▸ h)⟩) (fun h => ⟨by have := B3.out.size; omega, by omega⟩)))
      have B4 := Lib.hid (B3.out.trans (k4.below B3.out.size HF.out))
      have l4 : bx < w4.heap.size := by omega
      obtain ⟨f4, hf4⟩ : ∃ g, ext f w3.heap.size m4 = g := ⟨_, rfl⟩
      rw [hf4] at R4 F4
      clear rep4 k4 hf4 x3
      go_wp2_with fail
      refine (HLv2.out f4 w4 R4.out).mono ?_
      rintro e w5 ⟨rfl, hb5⟩
      have z5 := hb5.size
      have x5 := (hb5.cell (p := ⟨bx, 0, none⟩) l4).trans x4
      have R5 := Lib.hid (R4.out.below hb5)
      have B5 := Lib.hid (B4.out.trans (hb5.mono B4.out.size))
      have l5 : bx < w5.heap.size := by omega
      clear hb5 x4
      go_wp2_with fail
      refine (HLev.out f4 w5 R5.out).mono ?_
      rintro e w6 ⟨rfl, hb6⟩
      have z6 := hb6.size
      have x6 := (hb6.cell (p := ⟨bx, 0, none⟩) l5).trans x5
      have R6 := Lib.hid (R5.out.below hb6)
      have B6 := Lib.hid (B5.out.trans (hb6.mono B5.out.size))
      have l6 : bx < w6.heap.size := by omega
      clear hb6 x5
      go_wp2_with fail
      refine (HSub.out f4 w6 R6.out).mono ?_
      rintro e w7 ⟨A7, c7, rfl, own7, hb7⟩
      have z7 := hb7.size
      have x7 := (hb7.cell (p := ⟨bx, 0, none⟩) l6).trans x6
      have R7 := Lib.hid (R6.out.below hb7)
      have B7 := Lib.hid (B6.out.trans (hb7.mono B6.out.size))
      have SR7 := Lib.hid (srow_own own7 rfl)
      have l7 : bx < w7.heap.size := by omega
      clear hb7 x6 own7
      go_wp2_with fail
      refine (contains_nl1 A7 _ c7 s1.subs id bx w7 SR7.out (by omega) x7 HSub1.out).mono ?_
      rintro e w8 ⟨rfl, hb8⟩
      have z8 := hb8.size
      have x8 := (hb8.cell (p := ⟨bx, 0, none⟩) l7).trans x7
      have R8 := Lib.hid (R7.out.below hb8)
      have B8 := Lib.hid (B7.out.trans (hb8.mono B7.out.size))
      have l8 : bx < w8.heap.size := by omega
      clear hb8 x7
      go_wp2_with fail
      refine (HWa.out f4 w8 R8.out).mono ?_
      rintro e w9 ⟨rfl, ⟨m9, rep9⟩, k9⟩
      have z9 := k9.size
      have x9 : w9.cell? ⟨bx, 0, none⟩ = some (.string id) := (World.cell?_of_block (a := ⟨bx, 0, none⟩) (k9.block bx l8 (fun h => (F4.out bx h).2 rfl))).trans x8
      have R9 := Lib.hid rep9
      have B9 := Lib.hid (B8.out.trans (k9.below B8.out.size (fun x hx => (F4.out x hx).1)))
      have l9 : bx < w9.heap.size := by omega
      obtain ⟨P9, S9, nd9⟩ := rep9.at'
      rw [HOk2.out.2.1, HOk2.out.2.2] at nd9
      have HWs := Lib.hid (nwatch_self (E := 9) w9 nd9)
      have HND := Lib.hid nd9
      have nl9 := nd9.lt
      clear rep9 k9 x8 nd9
      go_wp2_with fail
      refine HWs.out.mono ?_
      rintro e w' ⟨rfl, rfl⟩
      go_wp2_with fail
      refine (HPe.out _ w9 R9.out).mono ?_
      rintro e w10 ⟨A10, n10, c10, rfl, T10, hb10⟩
      have z10 := hb10.size
      have x10 := (hb10.cell (p := ⟨bx, 0, none⟩) l9).trans x9
      have B10 := Lib.hid (B9.out.trans (hb10.mono B9.out.size))
      have HNw := Lib.hid (fun w' (hb : Below w10.heap.size w10 w') => (show Calls Try.prog 52 #[.pointer (some ⟨b, 0, none⟩)] w' fun e w'' => e = .returned (.int .i64 nw) ∧ Below w'.heap.size w' w'' from
        (now_ok w' (HND.out.same ((hb.block b (by omega)).trans (hb10.block b nl9)))).mono fun _ _ ⟨he, hw⟩ => ⟨he, hw ▸ Below.refl _ _⟩))
      have PR := Lib.hid T10.row
      have hn10 := T10.row.1
      have hlp : pos s2.peers id < n10 := by have := has_lt HGet.out.1; omega
      have h6 := HOk2.out.1.tab.len
      have l10 : bx < w10.heap.size := by omega
      obtain ⟨P, hP⟩ : ∃ P, pos s2.peers id = P := ⟨_, rfl⟩
      have HIx := Lib.hid (index_id2 A10 n10 c10 s2.peers _ id bx P w10 PR.out (by omega) HOk2.out.1.tab x10 (by rw [HGet.out.1, hP]; rfl))
      have hg := HGet.out.2
      rw [hP] at hg hlp
      obtain ⟨bp, op, rfl, lp, _, p0, p1, p2, p3, p4, p6, Bv, cv, p5, inv, _⟩ := PR.out.at hlp
      rw [hg] at p0 p1 p2 p3 p4 p5 p6 inv
      have p0' : w10.cell? ⟨bp, op + P * 7, none⟩ = some (.string id) := p0
      have p1' : w10.cell? ⟨bp, op + P * 7 + 1, none⟩ = some (.int .i64 0) := p1
      have p2' : w10.cell? ⟨bp, op + P * 7 + 2, none⟩ = some (.int .i64 0) := p2
      have p3' : w10.cell? ⟨bp, op + P * 7 + 3, none⟩ = some (.int .i64 0) := p3
      have p4' : w10.cell? ⟨bp, op + P * 7 + 4, none⟩ = some (.int .i64 4) := p4
      have p5' : w10.cell? ⟨bp, op + P * 7 + 5, none⟩ = some (.slice Bv 1 cv) := p5
      have p6' : w10.cell? ⟨bp, op + P * 7 + 6, none⟩ = some (.int .i64 nw) := p6
      have HInv := Lib.hid (show Row w10 Bv 1 [9] from inv.1)
      have hPn : (P : Int) < n10 := by omega
      have hP0 : (0 : Int) ≤ P := by omega
      have HCells := Lib.hid (And.intro p0' (And.intro p1' (And.intro p2' (And.intro p3' (And.intro p4' (And.intro p5' p6'))))))
      clear T10 hb10 x9 hP hg p0 p1 p2 p3 p4 p5 p6 p0' p1' p2' p3' p4' p5' p6' inv hn10
      go_wp2_with fail
      refine HIx.out.mono ?_
      rintro e w11 ⟨rfl, hb11⟩
      have z11 := hb11.size
      have B11 := Lib.hid (B10.out.trans (hb11.mono B10.out.size))
      have x11 := (hb11.cell (p := ⟨bx, 0, none⟩) l10).trans x10
      have lp10 : bp < w10.heap.size := lp
      have q0 := (hb11.cell (p := ⟨bp, op + P * 7, none⟩) lp10).trans HCells.out.1
      have q1 := (hb11.cell (p := ⟨bp, op + P * 7 + 1, none⟩) lp10).trans HCells.out.2.1
      have q2 := (hb11.cell (p := ⟨bp, op + P * 7 + 2, none⟩) lp10).trans HCells.out.2.2.1
      have q3 := (hb11.cell (p := ⟨bp, op + P * 7 + 3, none⟩) lp10).trans HCells.out.2.2.2.1
      have q4 := (hb11.cell (p := ⟨bp, op + P * 7 + 4, none⟩) lp10).trans HCells.out.2.2.2.2.1
      have q5 := (hb11.cell (p := ⟨bp, op + P * 7 + 5, none⟩) lp10).trans HCells.out.2.2.2.2.2.1
      have q6 := (hb11.cell (p := ⟨bp, op + P * 7 + 6, none⟩) lp10).trans HCells.out.2.2.2.2.2.2
      have HNw11 := Lib.hid (fun w' (hb : Below w11.heap.size w11 w') => HNw.out w' (hb11.trans (hb.mono hb11.size)))
      have HInv11 := Lib.hid (HInv.out.below hb11)
      have l11 : bx < w11.heap.size := by omega
      have lp11 : bp < w11.heap.size := by omega
      clear hb11 x10 lp
      go_upto_region 19 with fail
      refine wp_region_flow true (fun k => ([[], [], [], [], [], [], [], [], [8], [8], [], [], [8], [8]] : List (List Nat)).getD k []) (by kernel_rfl) (by kernel_rfl) ?_
      repeat (first | (refine flow_skip (fun _ => rfl) ?_; (try simp only [Act.put, List.setIfInBounds_toArray, List.set_cons_zero, List.set_cons_succ])) | (refine flow_mild (fun _ => rfl) (fun K hK => ?_); apply Exists.intro; refine ⟨fun B w2 h2 => ?_, ?_, ?_, ?_⟩; (next => (have h2' := Below.undrew h2.below; have g1 := Below.cells h2'; have g2 := Below.frozens h2'; (try simp only [World.size_alloc, World.size_setCell] at g1 g2); (try (obtain ⟨ql8, qc8, qf8, qh8, qz8⟩ := StF.cellsB h2 8 rfl rfl; (try simp only [World.size_alloc, World.size_setCell, World.size_drew] at ql8))); (try (have hbw := h2')); clear h2 h2'; unfold mildAt; first | (go_simp; simp only [mildUpon, true_and]; (first | exact HNw11.out _ hbw | exact samePeer_ok id 0 0 0 4 nw Bv _ 1 cv _ [9] _ (HInv11.out.below hbw) (row_one (by rw [qc8 0]; simp)) (by omega))) | (simp [mildUpon, go_sem, ↓IntWalk.iteOmega, *]; done) | (simp [mildUpon, go_sem, ↓IntWalk.iteOmega, *]; (try go_ints); rfl))); (next => (first | (exact fun _ _ _ => rfl) | (intro B1 B2 hB; (try dsimp only); simp [hB]; done))); (next => (first | (intro k' hk'; cases hk'; done) | (intro k' hk'; simp at hk'; (try subst hk'); (try simp [Ress.put]); done) | (intro k' hk'; simp at hk'; (try rcases hk' with rfl | rfl); all_goals (simp [Ress.put])))); (go_simp; refine hK _ ?_; clear hK K)) | (refine flow_ptr (fun _ => rfl) (fun K hK => ?_); apply Exists.intro; apply Exists.intro; refine ⟨fun B w2 h2 => ?_, ?_, ?_, ?_⟩; (next => (have h2' := Below.undrew h2.below; have g1 := Below.cells h2'; have g2 := Below.frozens h2'; (try simp only [World.size_alloc, World.size_setCell] at g1 g2); (try (obtain ⟨ql8, qc8, qf8, qh8, qz8⟩ := StF.cellsB h2 8 rfl rfl; (try simp only [World.size_alloc, World.size_setCell, World.size_drew] at ql8))); (try (have hbw := h2')); clear h2 h2'; simp [go_sem, ptrOf, ↓IntWalk.iteOmega, *]; first | exact ⟨rfl, rfl⟩ | rfl)); (next => simp); (next => first | rfl | simp [Ress.put]); ((try simp only [Ress.put_def]); go_simp; refine hK _ _ ?_; clear hK K)) | (refine flow_slice (fun _ => rfl) (fun K hK => ?_); apply Exists.intro; apply Exists.intro; apply Exists.intro; refine ⟨fun B w2 h2 => ?_, ?_, ?_, ?_⟩; (next => (have h2' := Below.undrew h2.below; have g1 := Below.cells h2'; have g2 := Below.frozens h2'; (try simp only [World.size_alloc, World.size_setCell] at g1 g2); (try (obtain ⟨ql8, qc8, qf8, qh8, qz8⟩ := StF.cellsB h2 8 rfl rfl; (try simp only [World.size_alloc, World.size_setCell, World.size_drew] at ql8))); (try (have hbw := h2')); clear h2 h2'; simp [go_sem, ↓IntWalk.iteOmega, *]; first | exact ⟨rfl, rfl⟩ | rfl)); (next => simp); (next => first | rfl | simp [Ress.put]); ((try simp only [Ress.put_def]); go_simp; refine hK _ _ ?_; clear hK K)))
      refine flow_nil ?_
      intro B w20 h20
      dsimp only
      have hb20 := Below.undrew h20.below
      obtain ⟨lo20_8, up20_8, e20_8, fz20_8⟩ := StA.cells h20 8 rfl
      try dsimp only at e20_8
      generalize (B 8).1 = b20_8 at *
      have eh20_8 := e20_8
      have fh20_8 := fz20_8
      change ∀ o, hcell _ _ o = _ at eh20_8
      change ∀ o, hfroz _ _ o = _ at fh20_8
      clear h20
      clear B
      try simp only [World.size_alloc, World.size_setCell, World.size_drew] at lo20_8
      have z20 := hb20.size
      have c20 := Below.cells hb20
      have f20 := Below.frozens hb20
      try simp only [World.size_alloc, World.size_setCell, World.size_drew] at z20 c20 f20
      go_wp2_with fail
      go_ret
      exact ⟨rfl, B11.out.trans (hb20.mono B11.out.size)⟩
end Go.Proofs.Ytpomdnglknbanaa

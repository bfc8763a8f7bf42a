import Derived.Test.YtpomdnglknbanaaKr
import Derived.Test.YtpomdnglknbanaaMd
set_option linter.unusedSimpArgs false
set_option linter.unusedVariables false
namespace Go.Proofs.Ytpomdnglknbanaa
open Go Go.RowKit
theorem own_kept' {f : Nat → Prop} {w w' : World} {B e s n : Nat} {v : Value} {xs : List Value} (h : w.ownsRow B e s v n xs) (hf : ∀ g, v.ownBlock = some g → ¬ f g) (hk : Kept f w w') : w'.ownsRow B e s v n xs :=
  own_same (f := fun x => ¬ f x) h hf ⟨hk.size, fun x hx hfx => hk.block x hx hfx⟩
set_option maxRecDepth 100000 in
set_option maxHeartbeats 16000000 in
theorem nodeBeats_walk (e0 a0 b0 : Int) (w : World) (_ : (Lit.int .i64 e0).wf = true) (_ : (Lit.int .i64 a0).wf = true) (_ : (Lit.int .i64 b0).wf = true) :
    Calls Try.prog 8 #[.int .i64 e0, .int .i64 a0, .int .i64 b0] w fun e w' => e = .returned (.bool true) ∧ Below w.heap.size w w' := by
  obtain ⟨E, hE⟩ : ∃ E, within e0 50 = E - 1 := ⟨within e0 50 + 1, by omega⟩
  have b1 := within_bd e0 (n := 50) (by omega)
  have b2 := within_bd a0 (n := 30) (by omega)
  have b3 := within_bd b0 (n := 30) (by omega)
  have hL : within 1 20 = 2 - 1 := by decide
  obtain ⟨y, e_y⟩ : ∃ z_, within a0 30 = z_ := ⟨_, rfl⟩
  rw [e_y] at b2
  have Hy := Lib.hid e_y
  clear e_y
  obtain ⟨z, e_z⟩ : ∃ z_, within b0 30 = z_ := ⟨_, rfl⟩
  rw [e_z] at b3
  have Hz := Lib.hid e_z
  clear e_z
  obtain ⟨g, hg⟩ : ∃ x, 1 + y = x := ⟨_, rfl⟩
  obtain ⟨h, hh⟩ : ∃ x, 1 + z = x := ⟨_, rfl⟩
  have vg : IntKind.i64.wrap (1 + y) = g := by rw [hg]; exact IntWalk.i64_in _ (by omega)
  have vh : IntKind.i64.wrap (1 + z) = h := by rw [hh]; exact IntWalk.i64_in _ (by omega)
  have gb : 1 ≤ g ∧ g ≤ 30 := by omega
  have hb : 1 ≤ h ∧ h ≤ 30 := by omega
  obtain ⟨u, hu⟩ : ∃ x, g + h = x := ⟨_, rfl⟩
  have vu : IntKind.i64.wrap (g + h) = u := by rw [hu]; exact IntWalk.i64_in _ (by omega)
  have ub : 2 ≤ u ∧ u ≤ 60 := by omega
  have EB : 1 ≤ E ∧ E ≤ 50 := by omega
  have vE : IntKind.i64.wrap (1 + (E - 1)) = E := by rw [show 1 + (E - 1) = E by omega]; exact IntWalk.i64_in _ (by omega)
  have HOne := Lib.hid (fun w' => one_ok e0 1 E 2 w' hE hL)
  have ok0 := oneS_ok (E := E) (L := 2) EB (by omega)
  obtain ⟨s0, hs0⟩ : ∃ s, oneS E 2 = s := ⟨_, rfl⟩
  have n0 : s0.now = 0 := by rw [← hs0]; rfl
  rw [hs0] at ok0 HOne
  obtain ⟨s1, hs1⟩ : ∃ s, (tickF s0 g).1 = s := ⟨_, rfl⟩
  have ok1 : AOK E 2 60 s1 := by rw [← hs1]; exact ((ok0.pre.tick (g := g) (by omega) (by omega)).tell).later (by omega)
  have n1 : s1.now = g := by rw [← hs1]; show s0.now + g = g; omega
  obtain ⟨s2, hs2⟩ : ∃ s, (tickF s1 h).1 = s := ⟨_, rfl⟩
  have ok2 : AOK E 2 120 s2 := by rw [← hs2]; exact ((ok1.pre.tick (g := h) (by omega) (by omega)).tell).later (by omega)
  have n2 : s2.now = u := by rw [← hs2]; show s1.now + h = u; omega
  obtain ⟨s3, hs3⟩ : ∃ s, (tickF s0 u).1 = s := ⟨_, rfl⟩
  have ok3 : AOK E 2 60 s3 := by rw [← hs3]; exact ((ok0.pre.tick (g := u) (by omega) (by omega)).tell).later (by omega)
  have n3 : s3.now = u := by rw [← hs3]; show s0.now + u = u; omega
  have HT1 := Lib.hid (fun f b w' (r : NRep w' b s0 f) => atick (g := g) w' r ok0.pre (by omega) (by omega))
  have HT2 := Lib.hid (fun f b w' (r : NRep w' b s1 f) => atick (g := h) w' r ok1.pre (by omega) (by omega))
  have HT3 := Lib.hid (fun f b w' (r : NRep w' b s0 f) => atick (g := u) w' r ok0.pre (by omega) (by omega))
  rw [hs1, n0] at HT1
  rw [hs2, n1] at HT2
  rw [hs3, n0] at HT3
  simp only [Int.zero_add, Int.zero_ediv] at HT1 HT3
  rw [show g + h = u from hu] at HT2
  obtain ⟨D, hD⟩ : ∃ D, u / E = D := ⟨_, rfl⟩
  obtain ⟨D1, hD1⟩ : ∃ D, g / E = D := ⟨_, rfl⟩
  have d0 := seq_le (n := u) (E := E) (by omega) EB.1
  have d1 := seq_le (n := g) (E := E) (by omega) EB.1
  have d2 : g / E ≤ u / E := Int.ediv_le_ediv (by omega) (by omega)
  rw [hD] at d0 d2
  rw [hD1] at d1 d2
  rw [hD, hD1] at HT2
  rw [hD1] at HT1
  rw [hD] at HT3
  have tq : u.tdiv E = D := by rw [Int.tdiv_eq_ediv_of_nonneg (by omega), hD]
  have tqw : IntKind.i64.wrap D = D := IntWalk.i64_in _ (by omega)
  have E0 : ¬ E = 0 := by omega
  have E1 : (E == 0) = false := by simp; omega
  have q2 : s2.seq = D := by rw [ok2.pre.seq, n2, hD]
  have q3 : s3.seq = D := by rw [ok3.pre.seq, n3, hD]
  have HW := Lib.hid hE
  have HB := Lib.hid (fun w' => nbegun_ok w')
  have HQ := Lib.hid (And.intro n2 (And.intro n3 (And.intro q2 q3)))
  obtain ⟨E', hE'⟩ : ∃ x, E - 1 = x := ⟨_, rfl⟩
  rw [hE'] at vE HW
  clear hE hE' hg hh hu ok0 ok1 ok2 ok3 hs0 hs1 hs2 hs3 n0 n1 n2 n3 q2 q3 hD hD1 b1 b2 b3 hL
  go_enter Try.func8, Try.ntmps8
  go_wp2_with fail
  refine (HB.out w).mono ?_
  rintro e w1 ⟨rfl, hb1⟩
  have B1 := Lib.hid hb1
  clear hb1
  go_wp2_with fail
  refine (HOne.out w1).mono ?_
  rintro e w2 ⟨bn, fn, rfl, rep2, hf2, hb2⟩
  have R2 := Lib.hid rep2
  have F2 := Lib.hid (fun x hx => Nat.le_trans B1.out.size (hf2 x hx))
  have B2 := Lib.hid (B1.out.trans (hb2.mono B1.out.size))
  have L2 := Lib.hid rep2.lt
  clear rep2 hf2 hb2
  go_wp2_with fail
  refine (HOne.out w2).mono ?_
  rintro e w3 ⟨bm, fm, rfl, rep3, hf3, hb3⟩
  have z3 := hb3.size
  have M3 := Lib.hid rep3
  have R3 := Lib.hid (R2.out.below hb3)
  have FM := Lib.hid (fun x hx => (show w.heap.size ≤ x ∧ ¬ fn x from ⟨by have := hf3 x hx; have := B2.out.size; omega, fun h => by have := L2.out x h; have := hf3 x hx; omega⟩))
  have FL := Lib.hid (fun x (hx : fn x) => (show x < w3.heap.size from by have := L2.out x hx; omega))
  have ML := Lib.hid rep3.lt
  have B3 := Lib.hid (B2.out.trans (hb3.mono B2.out.size))
  clear rep3 hf3 hb3
  go_wp2_with fail
  refine (within_any a0 30 y _ (by omega) (by omega) Hy.out).mono ?_
  rintro e w' ⟨rfl, rfl⟩
  go_wp2_with fail
  refine (within_any b0 30 z _ (by omega) (by omega) Hz.out).mono ?_
  rintro e w' ⟨rfl, rfl⟩
  go_wp2_with fail
  refine (HT1.out _ _ w3 R3.out).mono ?_
  rintro e w4 ⟨v4, A4, c4, m4, rfl, hm4, own4, _, rep4, k4⟩
  obtain ⟨As, cs, rfl, _, _, _⟩ := own_form own4
  have z4 := k4.size
  have R4 := Lib.hid rep4
  have M4 := Lib.hid (M3.out.same (k4.same (fun x hx h => (FM.out x hx).2 h)))
  have B4 := Lib.hid (B3.out.trans (k4.below B3.out.size F2.out))
  have O4 := Lib.hid own4
  clear own4 rep4 k4
  go_wp2_with fail
  refine (HT2.out _ _ w4 R4.out).mono ?_
  rintro e w5 ⟨v5, A5, c5, m5, rfl, hm5, own5, _, rep5, k5⟩
  obtain ⟨At, ct, rfl, _, _, _⟩ := own_form own5
  have z5 := k5.size
  have R5 := Lib.hid rep5
  have M5 := Lib.hid (M4.out.same (k5.same (fun x hx h => (FM.out x hx).2 h)))
  have B5 := Lib.hid (B4.out.trans (k5.below B4.out.size F2.out))
  have O45 := Lib.hid (own_kept' O4.out (fun g hg hfg => by have := (O4.out.lt g hg).1; have := FL.out g hfg; omega) k5)
  have O5 := Lib.hid own5
  clear own5 rep5 k5
  go_wp2_with fail
  refine (HT3.out _ _ w5 M5.out).mono ?_
  rintro e w6 ⟨v6, A6, c6, m6, rfl, hm6, own6, _, rep6, k6⟩
  obtain ⟨Au, cu, rfl, _, _, _⟩ := own_form own6
  have z6 := k6.size
  have M6 := Lib.hid rep6
  have R6 := Lib.hid (R5.out.same (k6.same (fun x hx h => (FM.out x h).2 hx)))
  have B6 := Lib.hid (B5.out.trans (k6.below B5.out.size (fun x hx => (FM.out x hx).1)))
  have O46 := Lib.hid (own_kept' O45.out (fun g hg hfg => by have := (O4.out.lt g hg).1; have := ML.out g hfg; omega) k6)
  have O56 := Lib.hid (own_kept' O5.out (fun g hg hfg => by have := (O5.out.lt g hg).1; have := ML.out g hfg; omega) k6)
  have O6 := Lib.hid own6
  clear own6 rep6 k6
  have e4 : (m4 : Int) = D1 := by omega
  have e6 : m6 = m4 + m5 := by omega
  have mb : m6 ≤ 60 := by omega
  have S4 := O46.out
  have S5 := O56.out
  have S6 := O6.out
  have tz : Int.toNat 0 = 0 := rfl
  have tD : D1.toNat = m4 := by omega
  rw [sent_map] at S4 S5 S6
  try rw [tz] at S4
  try rw [tz] at S6
  rw [tD] at S5
  have hap := sentB_app nA 0 0 m4 m5
  rw [Nat.zero_add, ← e6] at hap
  have HAp := Lib.hid hap
  have HS4 := Lib.hid S4
  have HS5 := Lib.hid S5
  have HS6 := Lib.hid S6
  obtain ⟨P6, Q6, nd⟩ := R6.out.at'
  obtain ⟨P7, Q7, nd'⟩ := M6.out.at'
  rw [HQ.out.1, HQ.out.2.2.1] at nd
  rw [HQ.out.2.1, HQ.out.2.2.2] at nd'
  have HND := Lib.hid (And.intro nd nd')
  have HE6 := Lib.hid e6
  have m46 : m4 ≤ 60 ∧ m5 ≤ 60 := by omega
  clear S4 S5 S6 hap nd nd' O4 O45 O46 O5 O56 O6 R4 R5 M3 M4 M5 hm4 hm5 hm6 e4 tD tz e6
  have qa := alloc_cells
  have qf := alloc_frozens
  go_wp2_with fail
  have ab : Below w6.heap.size w6 (w6.alloc (.cells #[.slice As m4 cs, .slice At m5 ct] 35)) := (Below.refl _ _).alloc (Nat.le_refl _) _
  have x0 : (w6.alloc (.cells #[.slice As m4 cs, .slice At m5 ct] 35)).cell? ⟨w6.heap.size, 0, none⟩ = some (.slice As m4 cs) := by simp [qa]
  have x1 : (w6.alloc (.cells #[.slice As m4 cs, .slice At m5 ct] 35)).cell? ⟨w6.heap.size, 1, none⟩ = some (.slice At m5 ct) := by simp [qa]
  have lB : w6.heap.size < (w6.alloc (.cells #[.slice As m4 cs, .slice At m5 ct] 35)).heap.size := by simp
  have C := Lib.hid (concatT_ok w6.heap.size _ _ As At m4 cs m5 ct _ _ (w6.alloc (.cells #[.slice As m4 cs, .slice At m5 ct] 35)) x0 x1 lB (own_below HS4.out ab) (own_below HS5.out ab) (by omega) (by omega))
  rw [← HAp.out, ← HE6.out] at C
  refine C.out.mono ?_
  rintro e w8 ⟨A8, c8, rfl, own8, hb8⟩
  have bl8 := Lib.hid (ab.trans (hb8.mono ab.size))
  have T8 := Lib.hid (trow_own own8)
  have U8 := Lib.hid (trow_own (own_below (own_below HS6.out ab) hb8))
  clear C own8 hb8 ab x0 x1 lB
  go_wp2_with fail
  have ET := Lib.hid (equalT_ok Au A8 m6 cu c8 (sentB nA 0 0 m6) w8 U8.out T8.out (by omega))
  refine ET.out.mono ?_
  rintro e w9 ⟨rfl, hb9⟩
  have bl9 := Lib.hid (bl8.out.trans (hb9.mono bl8.out.size))
  have HB9 := Lib.hid (B6.out.trans (bl9.out.mono B6.out.size))
  have U9 := Lib.hid (U8.out.below hb9)
  have N9 := Lib.hid (And.intro (HND.out.1.below bl9.out HND.out.1.lt) (HND.out.2.below bl9.out HND.out.2.lt))
  have HNow := Lib.hid (now_ok w9 N9.out.1)
  have HSq := Lib.hid (seq_ok w9 N9.out.1)
  have HSq' := Lib.hid (seq_ok w9 N9.out.2)
  clear hb9
  go_wp2_with fail
  refine HSq.out.mono ?_
  rintro e w' ⟨rfl, rfl⟩
  go_wp2_with fail
  refine (within_any e0 50 E' _ (by omega) (by omega) HW.out).mono ?_
  rintro e w' ⟨rfl, rfl⟩
  go_wp2_with fail
  refine HSq'.out.mono ?_
  rintro e w' ⟨rfl, rfl⟩
  go_wp2_with fail
  refine HSq.out.mono ?_
  rintro e w' ⟨rfl, rfl⟩
  go_wp2_with fail
  refine HNow.out.mono ?_
  rintro e w' ⟨rfl, rfl⟩
  go_wp2_with fail
  go_loopw [115] (fun i wr => ∃ k : Nat, k ≤ m6 ∧ i = .int .i64 k ∧ Below w9.heap.size w9 wr) (fun i _ => m6 - (intOf i).toNat)
  case atStart => exact ⟨0, Nat.zero_le _, rfl, Below.refl _ _⟩
  case round =>
    obtain ⟨k, hk, rfl, bel⟩ := hrel
    have szx := bel.size
    by_cases hlt : k < m6
    · obtain ⟨ba, oa, rfl, la, a1⟩ := (U9.out.below bel).at hlt
      rw [sentB_get hlt, show 0 + 1 + k = k + 1 by omega] at a1
      have HD := Lib.hid (fun w' => decode_enc nA 0 (k + 1) w' ⟨nA_ok, by omega, by omega, by omega⟩)
      obtain ⟨tx, htx⟩ : ∃ t, mkB (encL (byts nA) 0 (k + 1)) = t := ⟨_, rfl⟩
      rw [htx] at a1 HD
      rw [show ((k + 1 : Nat) : Int) = (k : Int) + 1 by omega] at HD
      have kw : IntKind.i64.wrap ((k : Int) + 1) = (k : Int) + 1 := IntWalk.i64_in _ (by omega)
      have HBe := Lib.hid bel
      clear htx bel
      go_wp2_with fail
      refine (HD.out _).mono ?_
      rintro e w10 ⟨rfl, hb10⟩
      have z10 := hb10.size
      have HB10 := Lib.hid (HBe.out.trans (hb10.mono szx))
      have hnn : nA = ⟨#[97]⟩ := rfl
      clear hb10
      go_wp2_with fail
      go_roundw
      case rel => exact ⟨k + 1, by omega, by go_num, HB10.out.trans ((Below.refl _ _).alloc HB10.out.size _)⟩
      case measure => simp [intOf]; omega
    · obtain rfl : m6 = k := by omega
      have HBe := Lib.hid bel
      clear bel
      go_wp2_with fail
      go_ret
      exact ⟨rfl, HB9.out.trans (HBe.out.mono HB9.out.size)⟩
end Go.Proofs.Ytpomdnglknbanaa

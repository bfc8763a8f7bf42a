import Derived.Test.YtpomdnglknbanaaVy
import Derived.Test.YtpomdnglknbanaaCl
import Derived.Maps.AppendAt
import Derived.Deep.DeepCutAuto
set_option linter.unusedSimpArgs false
set_option linter.unusedVariables false
namespace Go.Proofs.Ytpomdnglknbanaa
open Go Go.RowKit
theorem Room.below {w w' : World} {base g n : Nat} {l : List Int} {x : Int} (h : Room w base g n l x) (hb : Below w.heap.size w w') : Room w' base g n l x := by
  have hg : g < w.heap.size := by
    obtain ⟨g', e, _, h2, _⟩ := (own_wr h.1).2 _ rfl
    injection e with e
    omega
  exact ⟨own_below h.1 hb, fun i hi => (hb.cell (p := ⟨g, n + i, none⟩) hg).trans (h.2 i hi)⟩
theorem Room.inRow {w : World} {base g n : Nat} {l : List Int} {x : Int} (h : Room w base g n l x) : InRow w (some ⟨g, 0, none⟩) n (n + 3) l := own_inRow h.1
theorem row_same {w w' : World} {A : Option Addr} {n : Nat} {l : List Int} (h : Row w A n l) (hz : w.heap.size ≤ w'.heap.size) (hb : ∀ g off, A = some ⟨g, off, none⟩ → w'.heap[g]? = w.heap[g]?) : Row w' A n l := by
  refine ⟨h.1, fun hn => ?_⟩
  obtain ⟨b, off, e, lt, hc⟩ := h.2 hn
  exact ⟨b, off, e, by omega, fun k hk => (World.cell?_of_block (a := ⟨b, off + k, none⟩) (hb b off e)).trans (hc k hk)⟩
theorem own_other {w w' : World} {base g : Nat} {v : Value} {n s : Nat} {e T : TypeId} {xs : List Value} {cur : Array Value} {fz : Nat × Nat} (h : w.ownsRow base e s v n xs) (hg : w.heap[g]? = some (.cells cur T fz)) (hT : T ≠ e)
    (hs : ∀ b, b < w.heap.size → b ≠ g → w'.heap[b]? = w.heap[b]?) : w'.ownsRow base e s v n xs := by
  refine ⟨h.1, ?_⟩
  rcases h.2 with h | ⟨b, cap, cr, e1, hb, hc, r⟩
  · exact .inl h
  · refine .inr ⟨b, cap, cr, e1, hb, ?_, r⟩
    rw [hs b (Array.getElem?_eq_some_iff.1 hc).1 (fun e => by subst e; rw [hc] at hg; injection hg with hg; injection hg with _ hg _; exact hT hg.symm)]
    exact hc
theorem own_grown_other {w w' : World} {base base2 e T s s2 n n2 : Nat} {v v2 : Value} {xs ys : List Value} (h : w.ownsRow base e s v n xs) (h2 : w.ownsRow base2 T s2 v2 n2 ys) (hT : T ≠ e) (hg : w.grownBy w' v2.ownBlock) : w'.ownsRow base e s v n xs := by
  rcases h2.2 with ⟨rfl, _⟩ | ⟨g, cap, cur, rfl, _, hc, _⟩
  · exact h.kept hg (Classical.em _)
  · refine own_other h hc hT (fun b hb hne => hg.block b hb (fun h' => hne ?_))
    simp only [Value.ownBlock, Option.some.injEq] at h'
    exact h'
def pick4 {α : Type} (a b c d : α) (j : Nat) : α := if j = 0 then a else if j = 1 then b else if j = 2 then c else d
/-- The j-th of what was answered: a row, which may be written, in blocks between lo j and lo (j + 1). -/
structure Got (w : World) (lo : Nat → Nat) (A : Nat → Option Addr) (N C : Nat → Nat) (L : Nat → List Int) (j : Nat) : Prop where
  row : Row w (A j) (N j) (L j)
  wr : Wr w (lo j) (A j) (C j)
  up : ∀ g off, A j = some ⟨g, off, none⟩ → g < lo (j + 1)
  le : N j ≤ C j
  max : C j ≤ maxLen
  n65 : N j ≤ 65
theorem Got.lo {w : World} {lo : Nat → Nat} {A : Nat → Option Addr} {N C : Nat → Nat} {L : Nat → List Int} {j : Nat} (h : Got w lo A N C L j) : ∀ g off, A j = some ⟨g, off, none⟩ → lo j ≤ g ∧ g < lo (j + 1) ∧ g < w.heap.size := fun g off e => by
  obtain ⟨g', e', h1, h2, _⟩ := h.wr.2 _ e
  injection e' with e' _
  exact ⟨by omega, h.up g off e, by omega⟩
theorem Got.same {w w' : World} {lo : Nat → Nat} {A : Nat → Option Addr} {N C : Nat → Nat} {L : Nat → List Int} {j : Nat} (h : Got w lo A N C L j) (hz : w.heap.size ≤ w'.heap.size) (hb : ∀ g, lo j ≤ g → g < lo (j + 1) → g < w.heap.size → w'.heap[g]? = w.heap[g]?) : Got w' lo A N C L j :=
  ⟨row_same h.row hz (fun g off e => by obtain ⟨a, b, c⟩ := h.lo g off e; exact hb g a b c), h.wr.same hz (fun g off e => by obtain ⟨a, b, c⟩ := h.lo g off e; exact hb g a b c), h.up, h.le, h.max, h.n65⟩
theorem got_fresh {w w' : World} {base n c : Nat} {A : Option Addr} {l : List Int} (h : Fresh w base A n c l) (hb : Below w.heap.size w w') : Row w' A n l ∧ Wr w' base A c ∧ (∀ g off, A = some ⟨g, off, none⟩ → g < w.heap.size) ∧ n ≤ c ∧ c ≤ maxLen := by
  have h2 := h.below hb
  refine ⟨h2.row, h2.wr, fun g off e => ?_, h.le, h.max⟩
  obtain ⟨g', e', _, h3, _⟩ := h.wr.2 _ e
  injection e' with e' _
  omega
theorem info_ints : (Try.prog.info? 22).map (fun i => (i.zero, i.size, i.bytes)) = some (some (.slice none 0 0), 1, 24) := by kernel_rfl
set_option maxRecDepth 100000 in
set_option maxHeartbeats 16000000 in
theorem valuesOwn_walk (a : Option Addr) (len cap : Nat) (l : List Int) (x z : Int) (w : World) (hin : InRow w a len cap l) (hb : cap * 8 ≤ 140737488351232) (_ : (Lit.int .i64 x).wf = true) (_ : (Lit.int .i64 z).wf = true) :
    Calls Try.prog 22 #[.slice a len cap, .int .i64 x, .int .i64 z] w fun e w' => e = .returned (.bool true) ∧ Below w.heap.size w w' := by
  have hlc := hin.2.1
  have lb : len * 8 ≤ 140737488351232 := by omega
  have hm : len ≤ 9223372036854775807 := by omega
  have HIn := Lib.hid hin
  have HB := Lib.hid (fun w' => rbegun_ok w')
  have HRo := Lib.hid (fun w' (h : InRow w' a len cap l) => roomy_ok a len cap l (-7) w' h lb)
  have qa := alloc_cells
  have qf := alloc_frozens
  clear hin
  go_enter Try.func22, Try.ntmps22
  go_wp2_with fail
  refine (HB.out w).mono ?_
  rintro e w1 ⟨rfl, hb1⟩
  have B1 := Lib.hid hb1
  have I1 := Lib.hid (HIn.out.below hb1)
  clear hb1
  go_wp2_with fail
  refine (HRo.out w1 I1.out).mono ?_
  rintro e w2 ⟨g, rfl, room, hb2⟩
  have B2 := Lib.hid (B1.out.trans (hb2.mono B1.out.size))
  have R2 := Lib.hid room
  have HP := Lib.hid (fun w' (h : InRow w' (some ⟨g, 0, none⟩) len (len + 3) l) => push_any (some ⟨g, 0, none⟩) len (len + 3) l w' z x h hm)
  have HSo := Lib.hid (fun w' (h : Row w' (some ⟨g, 0, none⟩) len l) => sort_any (some ⟨g, 0, none⟩) len (len + 3) l w' h hm)
  have HPu := Lib.hid (fun w' (h : Row w' (some ⟨g, 0, none⟩) len l) => put_any (some ⟨g, 0, none⟩) len (len + 3) l w' x h hm)
  have HCu := Lib.hid (fun w' (h : Row w' (some ⟨g, 0, none⟩) len l) => cut_any (some ⟨g, 0, none⟩) len (len + 3) l w' x h hm)
  have HRa := Lib.hid (fun w' (h : Row w' (some ⟨g, 0, none⟩) len l) => rank_any (some ⟨g, 0, none⟩) len (len + 3) l w' h hm)
  have HFa := Lib.hid (fun w' (h : Row w' (some ⟨g, 0, none⟩) len l) => far_any (some ⟨g, 0, none⟩) len (len + 3) l w' x h hm)
  have HOf := Lib.hid (fun w' (h : Row w' (some ⟨g, 0, none⟩) len l) => sof_any (some ⟨g, 0, none⟩) len (len + 3) l w' h hm)
  have HVl := Lib.hid (fun w' (h : Row w' (some ⟨g, 0, none⟩) len l) => vlevel_any (some ⟨g, 0, none⟩) len (len + 3) l w' h hm)
  have HLo := Lib.hid (fun w' (h : Row w' (some ⟨g, 0, none⟩) len l) => lof_any z x (some ⟨g, 0, none⟩) len (len + 3) l w' h hm)
  have HEx := Lib.hid (fun w' (h : Row w' (some ⟨g, 0, none⟩) len l) => expect_any (some ⟨g, 0, none⟩) len (len + 3) l w' h hm)
  clear hb2 room
  go_wp2_with fail
  refine (HP.out _ R2.out.inRow).mono ?_
  rintro e w3 ⟨z1, A1, n1, c1, l1, k1, rfl, f1, m1, hb3⟩
  have F1 := Lib.hid f1
  have B3 := Lib.hid (B2.out.trans (hb3.mono B2.out.size))
  have R3 := Lib.hid (R2.out.below hb3)
  have y3 := hb3.size
  clear f1 hb3
  go_wp2_with fail
  have b4 : Below w3.heap.size w3 (w3.alloc (.cells #[.int .i64 z1, .slice A1 n1 c1] 33)) := (Below.refl _ _).alloc (Nat.le_refl _) _
  have p4 : (w3.alloc (.cells #[.int .i64 z1, .slice A1 n1 c1] 33)).cell? ⟨w3.heap.size, 1, none⟩ = some (.slice A1 n1 c1) := World.cell?_alloc_new _ _ _ 1
  have y4 : (w3.alloc (.cells #[.int .i64 z1, .slice A1 n1 c1] 33)).heap.size = w3.heap.size + 1 := by simp
  have R4 := Lib.hid (R3.out.below b4)
  have B4 := Lib.hid (B3.out.trans (b4.mono B3.out.size))
  have K4 := Lib.hid b4
  generalize w3.alloc (.cells #[.int .i64 z1, .slice A1 n1 c1] 33) = w4 at p4 y4 R4 B4 K4 ⊢
  have P4 := Lib.hid p4
  clear b4 p4 qa qf
  refine (HSo.out _ R4.out.inRow.1).mono ?_
  rintro e w5 ⟨A2, n2, c2, l2, k2, rfl, f2, m2, hb5⟩
  have F2 := Lib.hid f2
  have B5 := Lib.hid (B4.out.trans (hb5.mono B4.out.size))
  have K5 := Lib.hid hb5
  have R5 := Lib.hid (R4.out.below hb5)
  have y5 := hb5.size
  clear f2 hb5
  go_wp2_with fail
  refine (HPu.out _ R5.out.inRow.1).mono ?_
  rintro e w6 ⟨A3, n3, c3, l3, k3, rfl, f3, m3, hb6⟩
  have F3 := Lib.hid f3
  have B6 := Lib.hid (B5.out.trans (hb6.mono B5.out.size))
  have K6 := Lib.hid hb6
  have R6 := Lib.hid (R5.out.below hb6)
  have y6 := hb6.size
  clear f3 hb6
  go_wp2_with fail
  refine (HCu.out _ R6.out.inRow.1).mono ?_
  rintro e w7 ⟨A4, n4, c4, l4, k4, rfl, f4, m4, hb7⟩
  have F4 := Lib.hid f4
  have B7 := Lib.hid (B6.out.trans (hb7.mono B6.out.size))
  have K7 := Lib.hid hb7
  have R7 := Lib.hid (R6.out.below hb7)
  have y7 := hb7.size
  clear f4 hb7
  go_wp2_with fail
  refine (HRa.out _ R7.out.inRow.1).mono ?_
  rintro e w8 ⟨⟨v8, rfl⟩, hb8⟩
  have B8 := Lib.hid (B7.out.trans (hb8.mono B7.out.size))
  have K8 := Lib.hid hb8
  have R8 := Lib.hid (R7.out.below hb8)
  have y8 := hb8.size
  clear hb8
  go_wp2_with fail
  refine (HFa.out _ R8.out.inRow.1).mono ?_
  rintro e w9 ⟨⟨v9, rfl⟩, hb9⟩
  have B9 := Lib.hid (B8.out.trans (hb9.mono B8.out.size))
  have K9 := Lib.hid (K8.out.trans (hb9.mono K8.out.size))
  have R9 := Lib.hid (R8.out.below hb9)
  have y9 := hb9.size
  clear hb9
  go_wp2_with fail
  refine (HOf.out _ R9.out.inRow.1).mono ?_
  rintro e w10 ⟨⟨v10, rfl⟩, hb10⟩
  have B10 := Lib.hid (B9.out.trans (hb10.mono B9.out.size))
  have K10 := Lib.hid (K9.out.trans (hb10.mono K9.out.size))
  have R10 := Lib.hid (R9.out.below hb10)
  have y10 := hb10.size
  clear hb10
  go_wp2_with fail
  refine (HVl.out _ R10.out.inRow.1).mono ?_
  rintro e w11 ⟨⟨v11, rfl⟩, hb11⟩
  have B11 := Lib.hid (B10.out.trans (hb11.mono B10.out.size))
  have K11 := Lib.hid (K10.out.trans (hb11.mono K10.out.size))
  have R11 := Lib.hid (R10.out.below hb11)
  have y11 := hb11.size
  clear hb11
  go_wp2_with fail
  refine (HLo.out _ R11.out.inRow.1).mono ?_
  rintro e w12 ⟨⟨v12, rfl⟩, hb12⟩
  have B12 := Lib.hid (B11.out.trans (hb12.mono B11.out.size))
  have K12 := Lib.hid (K11.out.trans (hb12.mono K11.out.size))
  have R12 := Lib.hid (R11.out.below hb12)
  have y12 := hb12.size
  clear hb12
  go_wp2_with fail
  refine (HEx.out _ R12.out.inRow.1).mono ?_
  rintro e w13 ⟨⟨v13, rfl⟩, hb13⟩
  have B13 := Lib.hid (B12.out.trans (hb13.mono B12.out.size))
  have K13 := Lib.hid (K12.out.trans (hb13.mono K12.out.size))
  have R13 := Lib.hid (R12.out.below hb13)
  have y13 := hb13.size
  clear hb13
  go_wp2_with fail
  have HEq := Lib.hid (equal_ok (some ⟨g, 0, none⟩) a len (len + 3) len cap l w13 R13.out.inRow.1 (HIn.out.below B13.out).1 (by omega))
  refine HEq.out.mono ?_
  rintro e w14 ⟨rfl, hb14⟩
  have B14 := Lib.hid (B13.out.trans (hb14.mono B13.out.size))
  have K14 := Lib.hid (K13.out.trans (hb14.mono K13.out.size))
  have R14 := Lib.hid (R13.out.below hb14)
  have y14 := hb14.size
  clear hb14
  go_wp2_with fail
  refine (marked_ok _ g len l (-7) w14 R14.out lb).mono ?_
  rintro e w' ⟨rfl, rfl⟩
  have K714 := Lib.hid K14.out
  have K614 := Lib.hid (K7.out.trans (K714.out.mono (by omega)))
  have K514 := Lib.hid (K6.out.trans (K614.out.mono (by omega)))
  have K414 := Lib.hid (K5.out.trans (K514.out.mono (by omega)))
  have K314 := Lib.hid (K4.out.trans (K414.out.mono (by omega)))
  have pw : w14.cell? ⟨w3.heap.size, 1, none⟩ = some (.slice A1 n1 c1) := (K414.out.cell (p := ⟨w3.heap.size, 1, none⟩) (by show w3.heap.size < _; omega)).trans P4.out
  go_wp2_with fail
  have ab : Below w14.heap.size w14 (w14.alloc (.cells #[.slice A1 n1 c1, .slice A2 n2 c2, .slice A3 n3 c3, .slice A4 n4 c4] 22)) := (Below.refl _ _).alloc (Nat.le_refl _) _
  have pc : ∀ j, j < 4 → (w14.alloc (.cells #[.slice A1 n1 c1, .slice A2 n2 c2, .slice A3 n3 c3, .slice A4 n4 c4] 22)).cell? ⟨w14.heap.size, j, none⟩ = some (.slice (pick4 A1 A2 A3 A4 j) (pick4 n1 n2 n3 n4 j) (pick4 c1 c2 c3 c4 j)) := fun j hj => by
    rw [World.cell?_alloc_new]
    rcases (show j = 0 ∨ j = 1 ∨ j = 2 ∨ j = 3 by omega) with rfl | rfl | rfl | rfl <;> rfl
  have y15 : (w14.alloc (.cells #[.slice A1 n1 c1, .slice A2 n2 c2, .slice A3 n3 c3, .slice A4 n4 c4] 22)).heap.size = w14.heap.size + 1 := by simp
  have B15 := Lib.hid (B14.out.trans (ab.mono B14.out.size))
  have R15 := Lib.hid (R14.out.below ab)
  have K15 := Lib.hid ab
  generalize (w14.alloc (.cells #[.slice A1 n1 c1, .slice A2 n2 c2, .slice A3 n3 c3, .slice A4 n4 c4] 22)) = w15 at ab pc y15 B15 R15 K15 ⊢
  have L1 := got_fresh F1.out (K314.out.trans (ab.mono (by omega)))
  have L2 := got_fresh F2.out (K514.out.trans (ab.mono (by omega)))
  have L3 := got_fresh F3.out (K614.out.trans (ab.mono (by omega)))
  have L4 := got_fresh F4.out (K714.out.trans (ab.mono (by omega)))
  obtain ⟨lo, AA, NN, CC, LL, hgot, hcell, hlo0, hlo4, hmono⟩ : ∃ (lo : Nat → Nat) (AA : Nat → Option Addr) (NN CC : Nat → Nat) (LL : Nat → List Int), (∀ j, j < 4 → Got w15 lo AA NN CC LL j) ∧ (∀ j, j < 4 → w15.cell? ⟨w14.heap.size, j, none⟩ = some (.slice (AA j) (NN j) (CC j))) ∧ lo 0 = w2.heap.size ∧ lo 4 = w7.heap.size ∧ ∀ i j, i ≤ j → j ≤ 4 → lo i ≤ lo j := by
    refine ⟨fun j => if j = 0 then w2.heap.size else if j = 1 then w3.heap.size else if j = 2 then w5.heap.size else if j = 3 then w6.heap.size else w7.heap.size, pick4 A1 A2 A3 A4, pick4 n1 n2 n3 n4, pick4 c1 c2 c3 c4, pick4 l1 l2 l3 l4, fun j hj => ?_, pc, rfl, rfl, fun i j hij hj => ?_⟩
    · rcases (show j = 0 ∨ j = 1 ∨ j = 2 ∨ j = 3 by omega) with rfl | rfl | rfl | rfl
      · exact ⟨L1.1, L1.2.1, L1.2.2.1, L1.2.2.2.1, L1.2.2.2.2, m1⟩
      · exact ⟨L2.1, ⟨L2.2.1.1, fun ad ha => by obtain ⟨g', e, h1, h2⟩ := L2.2.1.2 ad ha; exact ⟨g', e, by show w3.heap.size ≤ g'; omega, h2⟩⟩, L2.2.2.1, L2.2.2.2.1, L2.2.2.2.2, m2⟩
      · exact ⟨L3.1, L3.2.1, L3.2.2.1, L3.2.2.2.1, L3.2.2.2.2, m3⟩
      · exact ⟨L4.1, L4.2.1, L4.2.2.1, L4.2.2.2.1, L4.2.2.2.2, m4⟩
    · rcases (show j = 0 ∨ j = 1 ∨ j = 2 ∨ j = 3 ∨ j = 4 by omega) with rfl | rfl | rfl | rfl | rfl <;> rcases (show i = 0 ∨ i = 1 ∨ i = 2 ∨ i = 3 ∨ i = 4 by omega) with rfl | rfl | rfl | rfl | rfl <;> first | (exfalso; omega) | (simp; done) | (simp; omega)
  have HG := Lib.hid hgot
  have HC := Lib.hid hcell
  have HLo := Lib.hid (And.intro hlo0 (And.intro hlo4 hmono))
  obtain ⟨bs, hbs⟩ : ∃ x, w14.heap.size = x := ⟨_, rfl⟩
  have HBs := Lib.hid (show w7.heap.size ≤ bs ∧ bs < w15.heap.size by omega)
  have hgl : g < w2.heap.size := by
    obtain ⟨g', e, _, h2, _⟩ := (own_wr R2.out.1).2 _ rfl
    injection e with e
    omega
  have HGl := Lib.hid hgl
  rw [hbs] at HC ⊢
  clear L1 L2 L3 L4 ab pc hgot hcell hlo0 hlo4 hmono hgl F1 F2 F3 F4 HP HSo HPu HCu HRa HFa HOf HVl HEx HEq HRo HB K4 K5 K6 K7 K8 K9 K10 K11 K12 K13 K14 K314 K414 K514 K614 K714 pw P4
  have y4' : w3.heap.size ≤ w4.heap.size := by omega
  clear y4 y15
  obtain ⟨i0, hi, hz0, hz1, hz2⟩ := info_parts info_ints
  go_loopw [17, 85] (fun v i wr => ∃ (k : Nat) (Bb : Nat → Option Addr) (d : Nat → Nat), k ≤ 4 ∧ i = .int .i64 k ∧ wr.ownsRow w15.heap.size 22 1 v k ((List.range k).map fun j => Value.slice (Bb j) (NN j) (d j)) ∧ (∀ j, j < k → wr.ownsRow w15.heap.size 3 1 (.slice (Bb j) (NN j) (d j)) (NN j) ((LL j).map (Value.int .i64))) ∧ Below w15.heap.size w15 wr) (fun _ i _ => 4 - (intOf i).toNat)
  case atStart => exact ⟨0, fun _ => none, fun _ => 0, Nat.zero_le _, rfl, World.ownsRow_nil _ _ _ _, fun j hj => absurd hj (by omega), Below.refl _ _⟩
  case round =>
    obtain ⟨wx, rfl⟩ : ∃ q : World, q = wr := ⟨_, rfl⟩
    obtain ⟨k, Bb, d, hk, rfl, hown, hrows, bel⟩ := hrel
    have szx := bel.size
    by_cases hlt : k < 4
    · have hgk := (HG.out k hlt).same szx (fun g _ _ hg => bel.block g hg)
      have kc : wx.cell? ⟨bs, k, none⟩ = some (.slice (AA k) (NN k) (CC k)) := (bel.cell (p := ⟨bs, k, none⟩) HBs.out.2).trans (HC.out k hlt)
      have HCl := Lib.hid (clone_own (AA k) (NN k) (CC k) (LL k) wx hgk.row (by have := hgk.n65; omega))
      have kw : IntKind.i64.wrap ((k : Int) + 1) = (k : Int) + 1 := IntWalk.i64_in _ (by omega)
      have kl : (k : Int) < 4 := by omega
      have O := Lib.hid hown
      have RW := Lib.hid hrows
      have HBe := Lib.hid bel
      obtain ⟨An, cn, rfl, _, _, _⟩ := own_form hown
      obtain ⟨Ak, hAk⟩ : ∃ q, AA k = q := ⟨_, rfl⟩
      obtain ⟨Nk, hNk⟩ : ∃ q, NN k = q := ⟨_, rfl⟩
      obtain ⟨Ck, hCk⟩ : ∃ q, CC k = q := ⟨_, rfl⟩
      rw [hAk, hNk, hCk] at kc HCl
      have HNk := Lib.hid hNk
      clear hgk hown hrows bel hAk hNk hCk
      go_wp2_with fail
      refine HCl.out.mono ?_
      rintro e wy ⟨v, rfl, ownv, hby⟩
      obtain ⟨Av, dv, rfl, _, _, _⟩ := own_form ownv
      have OV := Lib.hid ownv
      have OY := Lib.hid (own_below O.out hby)
      have RY := Lib.hid (fun j hj => own_below (RW.out j hj) hby)
      have BY := Lib.hid (HBe.out.trans (hby.mono szx))
      have szy := hby.size
      clear ownv hby
      go_wp2_with (at_builtin; refine wpList_append_own_at _ rfl _ _ 89 rfl w15.heap.size 22 i0 (.slice none 0 0) 1 24 Try.underlying89 hi hz0 hz1 hz2 rfl (by decide) _ k _ rfl (own_below OY.out ((Below.refl _ _).alloc (Nat.le_refl _) _)) ⟨wy.heap.size, 0, none⟩ 1 1 [.slice Av Nk dv] rfl rfl (app1_cells _ _ _) (by intro u hu; simp at hu; subst hu; rfl) (by unfold maxLen; omega) (by omega) (by simp; omega) ?_)
      intro v' wz own' gr' hnil' hor'
      clear hnil' hor'
      have hAl : Below wy.heap.size wy (wy.alloc (.cells #[.slice Av Nk dv] 22)) := (Below.refl _ _).alloc (Nat.le_refl _) _
      have hrow : ((List.range k).map fun j => Value.slice (Bb j) (NN j) (d j)) ++ [.slice Av Nk dv] = (List.range (k + 1)).map fun j => Value.slice (if j = k then Av else Bb j) (NN j) (if j = k then dv else d j) := by
        rw [List.range_succ, List.map_append]
        congr 1
        · apply List.map_congr_left
          intro j hj
          have := List.mem_range.1 hj
          rw [if_neg (by omega), if_neg (by omega)]
        · simp [HNk.out]
      rw [hrow] at own'
      have OW := Lib.hid own'
      have RW2 := Lib.hid (show ∀ j, j < k + 1 → wz.ownsRow w15.heap.size 3 1 (.slice (if j = k then Av else Bb j) (NN j) (if j = k then dv else d j)) (NN j) ((LL j).map (Value.int .i64)) from fun j hj => by
        by_cases e : j = k
        · subst e
          rw [if_pos rfl, if_pos rfl, HNk.out]
          exact own_grown_other (own_below (own_mono OV.out szx) hAl) (own_below OY.out hAl) (by decide) gr'
        · rw [if_neg e, if_neg e]
          exact own_grown_other (own_below (RY.out j (by omega)) hAl) (own_below OY.out hAl) (by decide) gr')
      have BZ := Lib.hid ((BY.out.trans (hAl.mono BY.out.size)).grown gr' (by have := BY.out.size; simp; omega) (fun q hq => (World.ownsRow.lt OY.out q hq).1))
      clear own' gr' hAl hrow
      go_wp2_with fail
      go_roundw
      case rel => exact ⟨k + 1, fun j => if j = k then Av else Bb j, fun j => if j = k then dv else d j, by omega, by go_num, OW.out, RW2.out, BZ.out⟩
      case measure => simp [intOf]; omega
    · obtain rfl : k = 4 := by omega
      have hx : Below w.heap.size w wx := B15.out.trans (bel.mono B15.out.size)
      have hroom := R15.out.below bel
      rcases hown.2 with ⟨_, h0⟩ | ⟨bw, cw, cur, rfl, hbw, hgw, hnc, hcm, hcs, htk⟩
      · omega
      have wcell : ∀ j, j < 4 → wx.cell? ⟨bw, j, none⟩ = some (.slice (Bb j) (NN j) (d j)) := fun j hj => by
        have := hown.cells (g := bw) rfl j (Value.slice (Bb j) (NN j) (d j)) (by simp [hj])
        rw [Go.WideShapes.add_plain, Nat.zero_add] at this
        exact this
      have hbwl : bw < wx.heap.size := (Array.getElem?_eq_some_iff.1 hgw).1
      have WC := Lib.hid (And.intro wcell (And.intro hbw hbwl))
      have RW := Lib.hid (fun j (hj : j < 4) => (And.intro (Row.of_own (hrows j hj)) (fun g' off (e : Bb j = some ⟨g', off, none⟩) => (World.ownsRow.lt (hrows j hj) g' (by rw [e]; rfl)))))
      have HSp := Lib.hid (spoil_ok (some ⟨g, 0, none⟩) len (len + 3) _ 3 wx (own_wr hroom.1) (by omega) (by unfold maxLen; omega))
      have BX := Lib.hid bel
      have HX := Lib.hid hx
      clear hown hrows bel hx hroom hbw hgw hnc hcm hcs htk wcell hbwl
      go_wp2_with fail
      refine HSp.out.mono ?_
      rintro e w16 ⟨⟨v16, rfl⟩, gr16, hz16⟩
      have hlo := HLo.out
      have hgl := HGl.out
      have hbl : ∀ b, b < wx.heap.size → b ≠ g → w16.heap[b]? = wx.heap[b]? := fun b hb' hne => gr16.block b hb' (fun e => hne (by simpa [Value.ownBlock] using e))
      have hlo0 : ∀ j, j ≤ 4 → w2.heap.size ≤ lo j := fun j hj => by rw [← hlo.1]; exact hlo.2.2 0 j (by omega) hj
      have G16 := Lib.hid (fun j (hj : j < 4) => (((HG.out j hj).same szx (fun b _ _ hb' => BX.out.block b hb')).same (by omega) (fun b h1 _ hb' => hbl b hb' (by have := hlo0 j (by omega); omega)) : Got w16 lo AA NN CC LL j))
      have C16 := Lib.hid (fun j (hj : j < 4) => ((World.cell?_of_block (a := ⟨bs, j, none⟩) (hbl bs (by have := HBs.out; omega) (by have := HBs.out; omega))).trans ((BX.out.cell (p := ⟨bs, j, none⟩) HBs.out.2).trans (HC.out j hj)) : w16.cell? ⟨bs, j, none⟩ = some (.slice (AA j) (NN j) (CC j))))
      have W16 := Lib.hid (fun j (hj : j < 4) => ((World.cell?_of_block (a := ⟨bw, j, none⟩) (hbl bw WC.out.2.2 (by have := WC.out.2.1; have := HBs.out; omega))).trans (WC.out.1 j hj) : w16.cell? ⟨bw, j, none⟩ = some (.slice (Bb j) (NN j) (d j))))
      have R16 := Lib.hid (fun j (hj : j < 4) => (row_same (RW.out j hj).1 (by omega) (fun g' off e => by obtain ⟨h1, h2⟩ := (RW.out j hj).2 g' off e; exact hbl g' h2 (by have := HBs.out; omega)) : Row w16 (Bb j) (NN j) (LL j)))
      have U16 := Lib.hid (fun j (hj : j < 4) g' off (e : Bb j = some ⟨g', off, none⟩) => (show w7.heap.size ≤ g' ∧ g' < w16.heap.size by obtain ⟨h1, h2⟩ := (RW.out j hj).2 g' off e; have := HBs.out; omega))
      have B16 := Lib.hid (HX.out.grown gr16 HX.out.size (fun q hq => by simp only [Value.ownBlock, Option.some.injEq] at hq; subst hq; have h9 : w1.heap.size ≤ g := (World.ownsRow.lt R2.out.1 _ rfl).1; have := B1.out.size; omega))
      have Z16 := Lib.hid (show bs < w16.heap.size ∧ bw < w16.heap.size ∧ w7.heap.size ≤ bs ∧ w7.heap.size ≤ bw by have := HBs.out; have := WC.out.2; omega)
      clear gr16 hz16 hbl hlo hlo0 hgl HG HC WC RW BX HX HSp
      go_wp2_with fail
      go_loopw [99] (fun i wr => ∃ k : Nat, k ≤ 4 ∧ i = .int .i64 k ∧ (∀ b, lo k ≤ b → b < w16.heap.size → wr.heap[b]? = w16.heap[b]?) ∧ w16.heap.size ≤ wr.heap.size ∧ Below w.heap.size w wr) (fun i _ => 4 - (intOf i).toNat)
      case atStart => exact ⟨0, Nat.zero_le _, rfl, fun _ _ _ => rfl, Nat.le_refl _, B16.out⟩
      case round =>
        obtain ⟨wy, rfl⟩ : ∃ q : World, q = wr := ⟨_, rfl⟩
        obtain ⟨k, hk, rfl, hsame, hsz, bel⟩ := hrel
        by_cases hlt : k < 4
        · have hl4 : lo k ≤ w7.heap.size := by rw [← HLo.out.2.1]; exact HLo.out.2.2 k 4 (by omega) (Nat.le_refl _)
          have z16 := Z16.out
          have gk := (G16.out k hlt).same hsz (fun b h1 _ hb' => hsame b h1 hb')
          have kc : wy.cell? ⟨bs, k, none⟩ = some (.slice (AA k) (NN k) (CC k)) := (World.cell?_of_block (a := ⟨bs, k, none⟩) (hsame bs (by omega) z16.1)).trans (C16.out k hlt)
          have kd : wy.cell? ⟨bw, k, none⟩ = some (.slice (Bb k) (NN k) (d k)) := (World.cell?_of_block (a := ⟨bw, k, none⟩) (hsame bw (by omega) z16.2.1)).trans (W16.out k hlt)
          have rb := row_same (R16.out k hlt) hsz (fun g' off e => by obtain ⟨h1, h2⟩ := U16.out k hlt g' off e; exact hsame g' (by omega) h2)
          have HEq := Lib.hid (equal_ok (AA k) (Bb k) (NN k) (CC k) (NN k) (d k) (LL k) wy gk.row rb (by have := gk.n65; omega))
          have HSp := Lib.hid (fun w' (h : Wr w' (lo k) (AA k) (CC k)) => spoil_ok (AA k) (NN k) (CC k) (lo k) 9 w' h gk.le gk.max)
          have HWr := Lib.hid gk.wr
          have HUp := Lib.hid gk.lo
          have kw : IntKind.i64.wrap ((k : Int) + 1) = (k : Int) + 1 := IntWalk.i64_in _ (by omega)
          have kl : (k : Int) < 4 := by omega
          have HSa := Lib.hid hsame
          have HSz := Lib.hid hsz
          have HBe := Lib.hid bel
          obtain ⟨Ak, hAk⟩ : ∃ q, AA k = q := ⟨_, rfl⟩
          obtain ⟨Nk, hNk⟩ : ∃ q, NN k = q := ⟨_, rfl⟩
          obtain ⟨Ck, hCk⟩ : ∃ q, CC k = q := ⟨_, rfl⟩
          obtain ⟨Bk, hBk⟩ : ∃ q, Bb k = q := ⟨_, rfl⟩
          obtain ⟨dk, hdk⟩ : ∃ q, d k = q := ⟨_, rfl⟩
          rw [hAk, hNk, hCk] at kc HSp
          rw [hBk, hNk, hdk] at kd
          rw [hAk, hNk, hCk, hBk, hdk] at HEq
          rw [hAk, hCk] at HWr
          rw [hAk] at HUp
          clear gk rb hsame hsz bel hAk hNk hCk hBk hdk z16
          go_wp2_with fail
          refine HEq.out.mono ?_
          rintro e w17 ⟨rfl, hb17⟩
          have B17 := Lib.hid (HBe.out.trans (hb17.mono HBe.out.size))
          have hwr17 := HWr.out.same hb17.size (fun g' off e => hb17.block g' (HUp.out g' off e).2.2)
          have HS17 := Lib.hid (HSp.out w17 hwr17)
          have K17 := Lib.hid hb17
          clear hb17 hwr17
          go_wp2_with fail
          refine HS17.out.mono ?_
          rintro e w18 ⟨⟨v18, rfl⟩, gr18, hz18⟩
          have S18 := Lib.hid (show ∀ b, lo (k + 1) ≤ b → b < w16.heap.size → w18.heap[b]? = w16.heap[b]? from fun b h1 h2 => by
            have hl : lo k ≤ lo (k + 1) := HLo.out.2.2 k (k + 1) (by omega) (by omega)
            have e1 := HSa.out b (by omega) h2
            have e2 := K17.out.block b (by have := HSz.out; omega)
            rw [gr18.block b (by have := HSz.out; have := K17.out.size; omega) (fun e => ?_), e2, e1]
            rcases Ak with _ | ⟨g', off', sp'⟩
            · simp [Value.ownBlock] at e
            · have hw := HWr.out.2 _ rfl
              obtain ⟨g'', e', _⟩ := hw
              injection e' with e1' e2' e3'
              subst e1' e2' e3'
              simp only [Value.ownBlock, Option.some.injEq] at e
              have := (HUp.out _ _ rfl).2.1
              omega)
          have B18 := Lib.hid (B17.out.grown gr18 B17.out.size (fun q hq => by
            rcases Ak with _ | ⟨g', off', sp'⟩
            · simp [Value.ownBlock] at hq
            · have hw := HWr.out.2 _ rfl
              obtain ⟨g'', e', hlo', _⟩ := hw
              injection e' with e1' e2' e3'
              subst e1' e2' e3'
              simp only [Value.ownBlock, Option.some.injEq] at hq
              have h1 := HLo.out.2.2 0 k (by omega) (by omega)
              have h2 := HLo.out.1
              have := B2.out.size
              omega))
          have Z18 := Lib.hid (show w16.heap.size ≤ w18.heap.size by rw [hz18]; exact Nat.le_trans HSz.out K17.out.size)
          clear gr18 hz18
          go_wp2_with fail
          go_roundw
          case rel => exact ⟨k + 1, by omega, by go_num, S18.out, Z18.out, B18.out⟩
          case measure => simp [intOf]; omega
        · obtain rfl : k = 4 := by omega
          have HBe := Lib.hid bel
          clear hsame hsz bel
          go_wp2_with fail
          go_ret
          exact ⟨rfl, HBe.out⟩
end Go.Proofs.Ytpomdnglknbanaa

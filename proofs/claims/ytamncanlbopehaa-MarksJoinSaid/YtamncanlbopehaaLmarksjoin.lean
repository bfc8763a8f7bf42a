import Derived.Test.YtamncanlbopehaaLmarksticks
set_option linter.unusedSimpArgs false
set_option linter.unusedVariables false
namespace Go.Proofs.Ytamncanlbopehaa
open Go.RowKit

/-- All times sooner by a. -/
def subI (a : Int) (l : List Int) : List Int := l.map (· - a)
theorem par_even {K : Nat} (h : K % 2 = 0) (i : Nat) : par (K + i) = par i := by
  unfold par; rw [show (K + i) % 2 = i % 2 by omega]
theorem bl_shift (a F : Int) : ∀ (l : List Int) (i K : Nat) (s : Int), K % 2 = 0 → bl (K + i) s l F = bl i (s - a) (subI a l) (F - a)
  | [], i, K, s, h => by simp only [bl, subI, List.map_nil]; rw [par_even h]; split <;> omega
  | x :: r, i, K, s, h => by
    have ih := bl_shift a F r (i + 1) K x h
    rw [← Nat.add_assoc] at ih
    simp only [bl, subI, List.map_cons] at ih ⊢
    rw [ih, par_even h]
    split <;> omega
theorem bl_even (F s t : Int) (l : List Int) : bl 0 s l F = bl 0 t l F := by
  cases l with
  | nil => rfl
  | cons x r => rfl
theorem bd_total (ts : List Int) (F : Int) : bdS (ts ++ [F]) (ts.length + 1) = bl 0 0 ts F := by
  have a := bd_bl ts F ts.length (Nat.le_refl _)
  rw [← a, List.drop_length]
  simp only [bdS, bl, get_last]
  rw [bef_append ts F (Nat.le_refl _)]
theorem take_get (ts : List Int) {k K : Nat} (h : k < K) : (ts.take K).getD k 0 = ts.getD k 0 := by simp [List.getD, List.getElem?_take, h]
theorem take_bef (ts : List Int) {k K : Nat} (h : k ≤ K) : bef (ts.take K) k = bef ts k := by
  unfold bef
  rcases Nat.eq_zero_or_pos k with rfl | h0
  · rfl
  · rw [if_neg (by omega), if_neg (by omega), take_get ts (by omega)]
theorem bd_take (ts : List Int) (A F : Int) {K : Nat} (hK : K ≤ ts.length) : ∀ k, k ≤ K → bdS (ts.take K ++ [A]) k = bdS (ts ++ [F]) k := by
  intro k
  have hl : (ts.take K).length = K := by simp; omega
  induction k with
  | zero => intro _; rfl
  | succ k ih =>
    intro hk
    simp only [bdS]
    rw [ih (by omega), bef_append _ A (by omega), bef_append ts F (by omega), get_append _ A (by omega), get_append ts F (by omega), take_bef ts (by omega), take_get ts (by omega)]
/-- Two parts of a row of turns, cut ahead of a suspicion. -/
theorem bd_join (ts : List Int) (A F : Int) {K : Nat} (hK : K ≤ ts.length) (h2 : K % 2 = 0) : bdS (ts ++ [F]) (ts.length + 1) = bdS (ts.take K ++ [A]) (K + 1) + bdS (subI A (ts.drop K) ++ [F - A]) ((subI A (ts.drop K)).length + 1) := by
  rw [bd_total ts F, bd_total (subI A (ts.drop K)) (F - A), ← bd_bl ts F K hK]
  have e := bl_shift A F (ts.drop K) 0 K (bef ts K) h2
  rw [Nat.add_zero] at e
  rw [e, bl_even (F - A) (bef ts K - A) 0]
  have p : par K = true := by unfold par; rw [h2]; rfl
  simp only [bdS, p, if_true, Int.add_zero]
  rw [bd_take ts A F hK K (Nat.le_refl _)]
theorem drop_get (ts : List Int) (k K : Nat) : (ts.drop K).getD k 0 = ts.getD (K + k) 0 := by simp [List.getD, List.getElem?_drop]
theorem sub_get (a : Int) (l : List Int) {k : Nat} (h : k < l.length) : (subI a l).getD k 0 = l.getD k 0 - a := by simp [subI, List.getD, h]
theorem mono_le {ts : List Int} {F : Int} (h : Mono ts F) : ∀ (d k : Nat), k + d < ts.length → ts.getD k 0 ≤ ts.getD (k + d) 0
  | 0, k, _ => Int.le_refl _
  | d + 1, k, hk => by
    have a := mono_le h d k (by omega)
    have b := (h.2 (k + d + 1) (by omega)).1
    rw [bef_succ] at b
    rw [← Nat.add_assoc]
    omega
theorem TRow.take {w : World} {A : Option Addr} {n K : Nat} {l : List Int} (h : TRow w A n l) (hK : K ≤ n) : TRow w A K (l.take K) := by
  have hl := h.1
  refine ⟨by simp; omega, fun hp => ?_⟩
  obtain ⟨b, off, e, lt, hc⟩ := h.2 (by omega)
  exact ⟨b, off, e, lt, fun k hk => by rw [take_get l hk]; exact hc k (by omega)⟩
/-- What MarksJoin's three calls ask: the cut, its time, and three rows of turns. -/
theorem join_pack {ts : List Int} {n K : Nat} {F : Int} (hn : ts.length = n) (hm : Mono ts F) (hK : K ≤ n) (h2 : K % 2 = 0) : ∃ A : Int, (K < n → A = ts.getD K 0) ∧ (¬ K < n → A = F) ∧ 0 ≤ A ∧ A ≤ F ∧ Mono (ts.take K) A ∧ Mono (subI A (ts.drop K)) (F - A) ∧ (∀ k, k < n - K → A ≤ ts.getD (K + k) 0 ∧ ts.getD (K + k) 0 ≤ F) := by
  obtain ⟨A, h1, h3⟩ : ∃ A : Int, (K < n → A = ts.getD K 0) ∧ (¬ K < n → A = F) := by
    by_cases c : K < n
    · exact ⟨_, fun _ => rfl, fun h => absurd c h⟩
    · exact ⟨_, fun h => absurd h c, fun _ => rfl⟩
  have bK := bef_le hm (k := K) (by omega)
  have hA : bef ts K ≤ A ∧ A ≤ F := by
    by_cases c : K < n
    · rw [h1 c]; exact hm.2 K (by omega)
    · rw [h3 c]; exact ⟨bK.2, Int.le_refl _⟩
  have hge : ∀ k, k < n - K → A ≤ ts.getD (K + k) 0 ∧ ts.getD (K + k) 0 ≤ F := fun k hk => by
    rw [h1 (by omega)]
    exact ⟨mono_le hm k K (by omega), (hm.2 (K + k) (by omega)).2⟩
  refine ⟨A, h1, h3, by omega, hA.2, ⟨by omega, fun k hk => ?_⟩, ⟨by omega, fun k hk => ?_⟩, hge⟩
  · have hk' : k < K := by simp at hk; omega
    rw [take_bef ts (by omega), take_get ts hk']
    refine ⟨(hm.2 k (by omega)).1, ?_⟩
    by_cases c : K < n
    · rw [h1 c]
      have := mono_le hm (K - k) k (by omega)
      rwa [show k + (K - k) = K by omega] at this
    · rw [h3 c]; exact (hm.2 k (by omega)).2
  · have hk' : k < n - K := by simp [subI] at hk; omega
    rw [sub_get A _ (by simp; omega), drop_get]
    refine ⟨?_, by have := hge k hk'; omega⟩
    unfold bef
    rcases Nat.eq_zero_or_pos k with rfl | h0
    · rw [if_pos rfl]; have := hge 0 hk'; omega
    · rw [if_neg (by omega), sub_get A _ (by simp; omega), drop_get]
      have b := (hm.2 (K + k) (by omega)).1
      obtain ⟨j, rfl⟩ : ∃ j, k = j + 1 := ⟨k - 1, by omega⟩
      rw [← Nat.add_assoc, bef_succ] at b
      rw [show j + 1 - 1 = j by omega, ← Nat.add_assoc]
      omega

set_option maxRecDepth 100000 in
set_option maxHeartbeats 16000000 in
theorem marksJoin_walk (a : Option Addr) (len cap : Nat) (l : List Int) (p q : Int) (w : World) (hin : InRow w a len cap l) (_ : (Lit.int .i64 p).wf = true) (_ : (Lit.int .i64 q).wf = true) :
    Calls Try.prog 8 #[.slice a len cap, .int .i64 p, .int .i64 q] w fun e w' =>
      e = .returned (.bool true) ∧ Below w.heap.size w w' := by
  obtain ⟨ts, n, hy, hn, h64, _, _, hget, hbd⟩ := turns_pack l
  have eb := hbd n (Nat.le_refl _)
  obtain ⟨E, hE⟩ : ∃ E, bef ts n = E := ⟨_, rfl⟩
  rw [hE] at eb
  have b1 := within_bd q (n := 50) (by omega)
  obtain ⟨P, e_P⟩ : ∃ z_, within q 50 = z_ := ⟨_, rfl⟩
  rw [e_P] at b1
  have HP := Lib.hid e_P
  clear e_P
  obtain ⟨F, hF⟩ : ∃ F, E + P = F := ⟨_, rfl⟩
  have hmo := turns_mono hn hget (e := F) (by omega) (by omega)
  have b2 := within_bd p (n := (n : Int) / 2 + 1) (by omega)
  obtain ⟨J, e_J⟩ : ∃ z_, within p ((n : Int) / 2 + 1) = z_ := ⟨_, rfl⟩
  rw [e_J] at b2
  have HJ := Lib.hid e_J
  clear e_J
  obtain ⟨K, hK⟩ : ∃ K : Nat, 2 * J = (K : Int) := ⟨(2 * J).toNat, by omega⟩
  have Kn : K ≤ n := by omega
  have K2 : K % 2 = 0 := by omega
  obtain ⟨AT, ha1, ha2, a0, aF, hm1, hm2, hge⟩ := join_pack hn hmo Kn K2
  obtain ⟨m, hmK⟩ : ∃ m, n - K = m := ⟨_, rfl⟩
  obtain ⟨D1, hD1⟩ : ∃ D, ts.take K = D := ⟨_, rfl⟩
  obtain ⟨D2, hD2⟩ : ∃ D, subI AT (ts.drop K) = D := ⟨_, rfl⟩
  have l1 : D1.length = K := by rw [← hD1]; simp; omega
  have l2 : D2.length = m := by rw [← hD2]; simp [subI]; omega
  have g2 : ∀ k, k < m → D2.getD k 0 = ts.getD (K + k) 0 - AT := fun k hk => by rw [← hD2, sub_get AT _ (by simp; omega), drop_get]
  rw [hD1] at hm1
  rw [hD2] at hm2
  rw [hmK] at hge
  have hj := bd_join ts AT F (K := K) (by omega) K2
  obtain ⟨Z, hZ⟩ : ∃ z, F - AT = z := ⟨_, rfl⟩
  rw [hZ] at hm2 hj
  obtain ⟨B, G, hB, hG, hBG, B0, G0⟩ := marks_pack ts n F hn hmo
  obtain ⟨B1, G1, hB1, hG1, hBG1, B10, G10⟩ := marks_pack D1 K AT l1 hm1
  obtain ⟨B2, G2, hB2, hG2, hBG2, B20, G20⟩ := marks_pack D2 m Z l2 hm2
  rw [hn, hB, hD1, hB1, hD2, l2, hB2] at hj
  obtain ⟨T, hT⟩ : ∃ T : Int, ((n + 1) / 2 : Nat) = T := ⟨_, rfl⟩
  obtain ⟨T1, hT1⟩ : ∃ T : Int, ((K + 1) / 2 : Nat) = T := ⟨_, rfl⟩
  obtain ⟨T2, hT2⟩ : ∃ T : Int, ((m + 1) / 2 : Nat) = T := ⟨_, rfl⟩
  have fb : 0 ≤ F ∧ F ≤ 2000 := by omega
  have hTT : T = T1 + T2 ∧ 0 ≤ T1 ∧ T1 ≤ 32 ∧ 0 ≤ T2 ∧ T2 ≤ 32 := by omega
  have hGG : G = G1 + G2 := by omega
  have h0 := mof_at none 0 0 [] 10 0 10 0 w (in_nil w) (by omega) ⟨by omega, by decide⟩ (by omega) (by decide) (by decide) (by decide)
  have h1 : ∀ w', InRow w' a len cap l → _ := fun w' h => turns_at a len cap l w' h ts n E hy hn hE
  have h2 : ∀ A c w', InTurns w' A n c ts → _ := fun A c w' h => mof_at A n c ts F B G T w' h h64 hmo (by omega) hB hG hT
  have h3 : ∀ A c w', InTurns w' A K c D1 → _ := fun A c w' h => mof_at A K c D1 AT B1 G1 T1 w' h (by omega) hm1 (by omega) hB1 hG1 hT1
  have h4 : ∀ A c w', InTurns w' A m c D2 → _ := fun A c w' h => mof_at A m c D2 Z B2 G2 T2 w' h (by omega) hm2 (by omega) hB2 hG2 hT2
  have H0 := Lib.hid h0
  have H1 := Lib.hid h1
  have H2 := Lib.hid h2
  have H3 := Lib.hid h3
  have H4 := Lib.hid h4
  have HIn := Lib.hid hin
  have HD1 := Lib.hid hD1
  have HL2 := Lib.hid l2
  have HG2 := Lib.hid g2
  have HGE := Lib.hid hge
  have e1 : (B == B1 + B2) = true := by simpa using hj
  have e2 : (G == G1 + G2) = true := by simpa using hGG
  have e3 : (T == T1 + T2) = true := by simpa using hTT.1
  have qd : (n : Int).tdiv 2 = (n : Int) / 2 := Int.tdiv_eq_ediv_of_nonneg (by omega)
  obtain ⟨HI, hHI⟩ : ∃ z : Int, (n : Int) / 2 = z := ⟨_, rfl⟩
  have hib : 0 ≤ HI ∧ HI ≤ 32 := by omega
  have jb : 0 ≤ J ∧ J ≤ 32 := by omega
  rw [hHI] at qd HJ
  have kb : 0 ≤ (K : Int) ∧ (K : Int) ≤ (n : Int) := by omega
  obtain ⟨i0, hi, hz0, hz1, hz2⟩ := info_parts info_turn
  have qa := alloc_cells
  have qf := alloc_frozens
  have hj' := hj
  clear h0 h1 h2 h3 h4 hin hB hG hT hB1 hG1 hT1 hB2 hG2 hT2 hmo hm1 hm2 hE hget hbd hn hy hD1 hD2 l1 l2 g2 hge hHI hj hGG b2 hj'
  rcases Nat.eq_zero_or_pos n with hn0 | hn0
  · subst hn0
    have hK0 : K = 0 := by omega
    subst hK0
    have hat := ha2 (by omega)
    have hZ0 : Z = 0 := by omega
    subst hat
    subst hZ0
    have hm0 : m = 0 := by omega
    have HM0 := Lib.hid hm0
    have hHI0 : HI = 0 := by simpa using qd.symm
    subst hHI0
    have HJ1 := Lib.hid (show within p 1 = J from HJ.out)
    clear ha1 ha2 hm0 qd hmK
    go_enter Try.func8, Try.ntmps8
    go_wp2_with fail
    refine (H0.out).mono ?_
    rintro e w1 ⟨rfl, hb1⟩
    have z1 := hb1.size
    have c1 := Below.cells hb1
    have f1 := Below.frozens hb1
    try simp only [World.size_alloc, World.size_setCell, World.size_drew] at z1 c1 f1
    go_wp2_with fail
    refine (H1.out _ (HIn.out.below (by repeat (first | (with_reducible exact Below.refl _ _) | ((with_reducible refine Below.alloc ?_ ?_ _); rotate_left; (next => ((try dsimp only); (try simp only [World.size_alloc, World.size_setCell, World.size_drew]); omega))) | ((with_reducible refine Below.setCell ?_ ?_ _); rotate_left; (next => ((try dsimp only); (try simp only [World.size_alloc, World.size_setCell, World.size_drew]); omega))) | (with_reducible refine Below.drew ?_) | ((with_reducible refine Below.trans ?_ (Below.mono hb1 ?_)); rotate_left; (next => ((try dsimp only); (try simp only [World.size_alloc, World.size_setCell, World.size_drew]); omega))))))).mono ?_
    rintro e w2 ⟨A0, c, rfl, hin2, hb2⟩
    have hnil := hin2.2.2.2
    have hnc := hin2.2.1
    have hcm := hin2.2.2.1
    unfold maxLen at hcm
    have HT := Lib.hid hin2
    have bel2 : Below w.heap.size w w2 := (by repeat (first | (with_reducible exact Below.refl _ _) | ((with_reducible refine Below.alloc ?_ ?_ _); rotate_left; (next => ((try dsimp only); (try simp only [World.size_alloc, World.size_setCell, World.size_drew]); omega))) | ((with_reducible refine Below.setCell ?_ ?_ _); rotate_left; (next => ((try dsimp only); (try simp only [World.size_alloc, World.size_setCell, World.size_drew]); omega))) | (with_reducible refine Below.drew ?_) | ((with_reducible refine Below.trans ?_ (Below.mono hb2 ?_)); rotate_left; (next => ((try dsimp only); (try simp only [World.size_alloc, World.size_setCell, World.size_drew]); omega))) | ((with_reducible refine Below.trans ?_ (Below.mono hb1 ?_)); rotate_left; (next => ((try dsimp only); (try simp only [World.size_alloc, World.size_setCell, World.size_drew]); omega)))))
    have HB2 := Lib.hid bel2
    clear hin2 bel2 hb2 qa qf c1 f1
    rcases A0 with _ | ad
    · obtain ⟨_, rfl⟩ := hnil rfl
      go_wp2_with fail
      refine (within_any q 50 P _ (by omega) (by omega) HP.out).mono ?_
      rintro e w' ⟨rfl, rfl⟩
      go_wp2_with fail
      refine (within_any p 1 J _ (by omega) (by omega) HJ1.out).mono ?_
      rintro e w' ⟨rfl, rfl⟩
      go_wp2_with fail
      go_loopw [12, 62] (fun v i wr => ∃ k : Nat, k ≤ m ∧ i = .int .i64 k ∧ wr.ownsRow w2.heap.size 47 2 v k (tvs 0 (List.take k D2)) ∧ Below w2.heap.size w2 wr) (fun _ i _ => m - (intOf i).toNat)
      case atStart => exact ⟨0, Nat.zero_le _, rfl, World.ownsRow_nil _ _ _ _, Below.refl _ _⟩
      case round =>
        obtain ⟨k, hk, rfl, hown, bel⟩ := hrel
        have hsz := bel.size
        by_cases hlt : k < m
        · exact absurd hlt (by have := HM0.out; omega)
        · obtain rfl : m = k := by omega
          rw [List.take_of_length_le (by have := HL2.out; omega)] at hown
          obtain ⟨A4, k4, rfl, q1, q2, q3⟩ := own_form hown
          have R4 := Lib.hid (show InTurns wr A4 m k4 D2 from ⟨TRow.of_own HL2.out hown, q1, q2, q3⟩)
          have R2 := Lib.hid (HT.out.below bel)
          have R3 := Lib.hid (show InTurns wr _ 0 _ D1 from ⟨by have := (HT.out.1.below bel).take Kn; rwa [HD1.out] at this, HT.out.2.1, HT.out.2.2.1, HT.out.2.2.2⟩)
          have BB := HB2.out.trans (bel.mono HB2.out.size)
          have qa := alloc_cells
          have qf := alloc_frozens
          obtain ⟨w9, rfl⟩ : ∃ z : World, z = wr := ⟨_, rfl⟩
          have HBB := Lib.hid BB
          clear hown q3 bel BB
          go_wp2_with fail
          refine (H2.out _ _ _ R2.out).mono ?_
          rintro e w3 ⟨rfl, hb3⟩
          have z3 := hb3.size
          have c3 := Below.cells hb3
          have f3 := Below.frozens hb3
          try simp only [World.size_alloc, World.size_setCell, World.size_drew] at z3 c3 f3
          go_wp2_with fail
          refine (H3.out _ _ _ (R3.out.below (by repeat (first | (with_reducible exact Below.refl _ _) | ((with_reducible refine Below.alloc ?_ ?_ _); rotate_left; (next => ((try dsimp only); (try simp only [World.size_alloc, World.size_setCell, World.size_drew]); omega))) | ((with_reducible refine Below.setCell ?_ ?_ _); rotate_left; (next => ((try dsimp only); (try simp only [World.size_alloc, World.size_setCell, World.size_drew]); omega))) | (with_reducible refine Below.drew ?_) | ((with_reducible refine Below.trans ?_ (Below.mono hb3 ?_)); rotate_left; (next => ((try dsimp only); (try simp only [World.size_alloc, World.size_setCell, World.size_drew]); omega))))))).mono ?_
          rintro e w4 ⟨rfl, hb4⟩
          have z4 := hb4.size
          have c4 := Below.cells hb4
          have f4 := Below.frozens hb4
          try simp only [World.size_alloc, World.size_setCell, World.size_drew] at z4 c4 f4
          go_wp2_with fail
          refine (H4.out A4 k4 _ (R4.out.below (by repeat (first | (with_reducible exact Below.refl _ _) | ((with_reducible refine Below.alloc ?_ ?_ _); rotate_left; (next => ((try dsimp only); (try simp only [World.size_alloc, World.size_setCell, World.size_drew]); omega))) | ((with_reducible refine Below.setCell ?_ ?_ _); rotate_left; (next => ((try dsimp only); (try simp only [World.size_alloc, World.size_setCell, World.size_drew]); omega))) | (with_reducible refine Below.drew ?_) | ((with_reducible refine Below.trans ?_ (Below.mono hb4 ?_)); rotate_left; (next => ((try dsimp only); (try simp only [World.size_alloc, World.size_setCell, World.size_drew]); omega))) | ((with_reducible refine Below.trans ?_ (Below.mono hb3 ?_)); rotate_left; (next => ((try dsimp only); (try simp only [World.size_alloc, World.size_setCell, World.size_drew]); omega))))))).mono ?_
          rintro e w5 ⟨rfl, hb5⟩
          have z5 := hb5.size
          have c5 := Below.cells hb5
          have f5 := Below.frozens hb5
          try simp only [World.size_alloc, World.size_setCell, World.size_drew] at z5 c5 f5
          go_wp2_with fail
          go_ret
          exact ⟨rfl, HBB.out.trans (Below.mono (B := w9.heap.size) (by repeat (first | (with_reducible exact Below.refl _ _) | ((with_reducible refine Below.alloc ?_ ?_ _); rotate_left; (next => ((try dsimp only); (try simp only [World.size_alloc, World.size_setCell, World.size_drew]); omega))) | ((with_reducible refine Below.setCell ?_ ?_ _); rotate_left; (next => ((try dsimp only); (try simp only [World.size_alloc, World.size_setCell, World.size_drew]); omega))) | (with_reducible refine Below.drew ?_) | ((with_reducible refine Below.trans ?_ (Below.mono hb5 ?_)); rotate_left; (next => ((try dsimp only); (try simp only [World.size_alloc, World.size_setCell, World.size_drew]); omega))) | ((with_reducible refine Below.trans ?_ (Below.mono hb4 ?_)); rotate_left; (next => ((try dsimp only); (try simp only [World.size_alloc, World.size_setCell, World.size_drew]); omega))) | ((with_reducible refine Below.trans ?_ (Below.mono hb3 ?_)); rotate_left; (next => ((try dsimp only); (try simp only [World.size_alloc, World.size_setCell, World.size_drew]); omega))))) HBB.out.size)⟩
    · rcases (by omega : 0 = c ∨ ¬ c = 0) with rfl | hc0
      all_goals
        go_wp2_with fail
        refine (within_any q 50 P _ (by omega) (by omega) HP.out).mono ?_
        rintro e w' ⟨rfl, rfl⟩
        go_wp2_with fail
        refine (within_any p 1 J _ (by omega) (by omega) HJ1.out).mono ?_
        rintro e w' ⟨rfl, rfl⟩
        go_wp2_with fail
        go_loopw [12, 62] (fun v i wr => ∃ k : Nat, k ≤ m ∧ i = .int .i64 k ∧ wr.ownsRow w2.heap.size 47 2 v k (tvs 0 (List.take k D2)) ∧ Below w2.heap.size w2 wr) (fun _ i _ => m - (intOf i).toNat)
        case atStart => exact ⟨0, Nat.zero_le _, rfl, World.ownsRow_nil _ _ _ _, Below.refl _ _⟩
        case round =>
          obtain ⟨k, hk, rfl, hown, bel⟩ := hrel
          have hsz := bel.size
          by_cases hlt : k < m
          · exact absurd hlt (by have := HM0.out; omega)
          · obtain rfl : m = k := by omega
            rw [List.take_of_length_le (by have := HL2.out; omega)] at hown
            obtain ⟨A4, k4, rfl, q1, q2, q3⟩ := own_form hown
            have R4 := Lib.hid (show InTurns wr A4 m k4 D2 from ⟨TRow.of_own HL2.out hown, q1, q2, q3⟩)
            have R2 := Lib.hid (HT.out.below bel)
            have R3 := Lib.hid (show InTurns wr _ 0 _ D1 from ⟨by have := (HT.out.1.below bel).take Kn; rwa [HD1.out] at this, HT.out.2.1, HT.out.2.2.1, HT.out.2.2.2⟩)
            have BB := HB2.out.trans (bel.mono HB2.out.size)
            have qa := alloc_cells
            have qf := alloc_frozens
            obtain ⟨w9, rfl⟩ : ∃ z : World, z = wr := ⟨_, rfl⟩
            have HBB := Lib.hid BB
            clear hown q3 bel BB
            go_wp2_with fail
            refine (H2.out _ _ _ R2.out).mono ?_
            rintro e w3 ⟨rfl, hb3⟩
            have z3 := hb3.size
            have c3 := Below.cells hb3
            have f3 := Below.frozens hb3
            try simp only [World.size_alloc, World.size_setCell, World.size_drew] at z3 c3 f3
            go_wp2_with fail
            refine (H3.out _ _ _ (R3.out.below (by repeat (first | (with_reducible exact Below.refl _ _) | ((with_reducible refine Below.alloc ?_ ?_ _); rotate_left; (next => ((try dsimp only); (try simp only [World.size_alloc, World.size_setCell, World.size_drew]); omega))) | ((with_reducible refine Below.setCell ?_ ?_ _); rotate_left; (next => ((try dsimp only); (try simp only [World.size_alloc, World.size_setCell, World.size_drew]); omega))) | (with_reducible refine Below.drew ?_) | ((with_reducible refine Below.trans ?_ (Below.mono hb3 ?_)); rotate_left; (next => ((try dsimp only); (try simp only [World.size_alloc, World.size_setCell, World.size_drew]); omega))))))).mono ?_
            rintro e w4 ⟨rfl, hb4⟩
            have z4 := hb4.size
            have c4 := Below.cells hb4
            have f4 := Below.frozens hb4
            try simp only [World.size_alloc, World.size_setCell, World.size_drew] at z4 c4 f4
            go_wp2_with fail
            refine (H4.out A4 k4 _ (R4.out.below (by repeat (first | (with_reducible exact Below.refl _ _) | ((with_reducible refine Below.alloc ?_ ?_ _); rotate_left; (next => ((try dsimp only); (try simp only [World.size_alloc, World.size_setCell, World.size_drew]); omega))) | ((with_reducible refine Below.setCell ?_ ?_ _); rotate_left; (next => ((try dsimp only); (try simp only [World.size_alloc, World.size_setCell, World.size_drew]); omega))) | (with_reducible refine Below.drew ?_) | ((with_reducible refine Below.trans ?_ (Below.mono hb4 ?_)); rotate_left; (next => ((try dsimp only); (try simp only [World.size_alloc, World.size_setCell, World.size_drew]); omega))) | ((with_reducible refine Below.trans ?_ (Below.mono hb3 ?_)); rotate_left; (next => ((try dsimp only); (try simp only [World.size_alloc, World.size_setCell, World.size_drew]); omega))))))).mono ?_
            rintro e w5 ⟨rfl, hb5⟩
            have z5 := hb5.size
            have c5 := Below.cells hb5
            have f5 := Below.frozens hb5
            try simp only [World.size_alloc, World.size_setCell, World.size_drew] at z5 c5 f5
            go_wp2_with fail
            go_ret
            exact ⟨rfl, HBB.out.trans (Below.mono (B := w9.heap.size) (by repeat (first | (with_reducible exact Below.refl _ _) | ((with_reducible refine Below.alloc ?_ ?_ _); rotate_left; (next => ((try dsimp only); (try simp only [World.size_alloc, World.size_setCell, World.size_drew]); omega))) | ((with_reducible refine Below.setCell ?_ ?_ _); rotate_left; (next => ((try dsimp only); (try simp only [World.size_alloc, World.size_setCell, World.size_drew]); omega))) | (with_reducible refine Below.drew ?_) | ((with_reducible refine Below.trans ?_ (Below.mono hb5 ?_)); rotate_left; (next => ((try dsimp only); (try simp only [World.size_alloc, World.size_setCell, World.size_drew]); omega))) | ((with_reducible refine Below.trans ?_ (Below.mono hb4 ?_)); rotate_left; (next => ((try dsimp only); (try simp only [World.size_alloc, World.size_setCell, World.size_drew]); omega))) | ((with_reducible refine Below.trans ?_ (Below.mono hb3 ?_)); rotate_left; (next => ((try dsimp only); (try simp only [World.size_alloc, World.size_setCell, World.size_drew]); omega))))) HBB.out.size)⟩
  · by_cases hKn : K < n
    · have hat := ha1 hKn
      have hK1 : (K : Int) < (n : Int) := by omega
      clear ha1 ha2
      go_enter Try.func8, Try.ntmps8
      go_wp2_with fail
      refine (H0.out).mono ?_
      rintro e w1 ⟨rfl, hb1⟩
      have z1 := hb1.size
      have c1 := Below.cells hb1
      have f1 := Below.frozens hb1
      try simp only [World.size_alloc, World.size_setCell, World.size_drew] at z1 c1 f1
      go_wp2_with fail
      refine (H1.out _ (HIn.out.below (by repeat (first | (with_reducible exact Below.refl _ _) | ((with_reducible refine Below.alloc ?_ ?_ _); rotate_left; (next => ((try dsimp only); (try simp only [World.size_alloc, World.size_setCell, World.size_drew]); omega))) | ((with_reducible refine Below.setCell ?_ ?_ _); rotate_left; (next => ((try dsimp only); (try simp only [World.size_alloc, World.size_setCell, World.size_drew]); omega))) | (with_reducible refine Below.drew ?_) | ((with_reducible refine Below.trans ?_ (Below.mono hb1 ?_)); rotate_left; (next => ((try dsimp only); (try simp only [World.size_alloc, World.size_setCell, World.size_drew]); omega))))))).mono ?_
      rintro e w2 ⟨A0, c, rfl, hin2, hb2⟩
      obtain ⟨b, off, rfl, ltA, hcc⟩ := hin2.1.2 hn0
      have hnc := hin2.2.1
      have hcm := hin2.2.2.1
      unfold maxLen at hcm
      have HT := Lib.hid hin2
      have hcA := (hcc K hKn).1
      rw [← hat] at hcA
      have HCC := Lib.hid hcc
      have bel2 : Below w.heap.size w w2 := (by repeat (first | (with_reducible exact Below.refl _ _) | ((with_reducible refine Below.alloc ?_ ?_ _); rotate_left; (next => ((try dsimp only); (try simp only [World.size_alloc, World.size_setCell, World.size_drew]); omega))) | ((with_reducible refine Below.setCell ?_ ?_ _); rotate_left; (next => ((try dsimp only); (try simp only [World.size_alloc, World.size_setCell, World.size_drew]); omega))) | (with_reducible refine Below.drew ?_) | ((with_reducible refine Below.trans ?_ (Below.mono hb2 ?_)); rotate_left; (next => ((try dsimp only); (try simp only [World.size_alloc, World.size_setCell, World.size_drew]); omega))) | ((with_reducible refine Below.trans ?_ (Below.mono hb1 ?_)); rotate_left; (next => ((try dsimp only); (try simp only [World.size_alloc, World.size_setCell, World.size_drew]); omega)))))
      have HB2 := Lib.hid bel2
      have hcK : ¬ c = K := by omega
      clear hin2 hcc bel2 hat hb2 qa qf c1 f1
      go_wp2_with fail
      refine (within_any q 50 P _ (by omega) (by omega) HP.out).mono ?_
      rintro e w' ⟨rfl, rfl⟩
      go_wp2_with fail
      refine (within_any p (HI + 1) J _ (by omega) (by omega) HJ.out).mono ?_
      rintro e w' ⟨rfl, rfl⟩
      go_wp2_with fail
      go_loopw [12, 62] (fun v i wr => ∃ k : Nat, k ≤ m ∧ i = .int .i64 k ∧ wr.ownsRow w2.heap.size 47 2 v k (tvs 0 (List.take k D2)) ∧ Below w2.heap.size w2 wr) (fun _ i _ => m - (intOf i).toNat)
      case atStart => exact ⟨0, Nat.zero_le _, rfl, World.ownsRow_nil _ _ _ _, Below.refl _ _⟩
      case round =>
        obtain ⟨k, hk, rfl, hown, bel⟩ := hrel
        have hsz := bel.size
        by_cases hlt : k < m
        · have hge := HGE.out k hlt
          have hc2 := HCC.out (K + k) (by omega)
          rw [show off + (K + k) * 2 = off + K * 2 + k * 2 by omega, par_even K2] at hc2
          have x1 := (bel.cell (p := ⟨b, off + K * 2 + k * 2, none⟩) ltA).trans hc2.1
          have x2 := (bel.cell (p := ⟨b, off + K * 2 + k * 2 + 1, none⟩) ltA).trans hc2.2
          obtain ⟨y, hy⟩ : ∃ y, ts.getD (K + k) 0 = y := ⟨_, rfl⟩
          rw [hy] at x1 hge
          have htk : tvs 0 (List.take (k + 1) D2) = tvs 0 (List.take k D2) ++ [.int .i64 (y - AT), .bool (par k)] := by
            rw [take_snoc _ (by have := HL2.out; omega), HG2.out k hlt, hy, tvs_snoc]
            have : (List.take k D2).length = k := by simp; have := HL2.out; omega
            rw [this, Nat.zero_add]
          have HTK := Lib.hid htk
          have hcl := tv_cells (wr.alloc (.cells #[.int .i64 y, .bool (par k)] 47)) (y - AT) (par k) 47
          rw [World.size_alloc] at hcl
          have HCL := Lib.hid hcl
          clear hc2 hy htk hcl
          go_wp2_with (at_builtin; (refine wpList_append_own _ rfl _ _ 48 rfl w2.heap.size 47 i0 _ 2 16 Try.underlying48 hi hz0 hz1 hz2 rfl (by decide) _ _ _ rfl (World.ownsRow.alloc (World.ownsRow.alloc hown _) _) ⟨wr.heap.size + 1, 0, none⟩ 1 1 [.int .i64 (y - AT), .bool (par k)] rfl rfl HCL.out (tv_one _ _) (by unfold maxLen; omega) (by omega) (by simp; omega) ?_))
          intro vq wq ownq grq _
          have own2 : wq.ownsRow w2.heap.size 47 2 vq (k + 1) (tvs 0 (List.take (k + 1) D2)) := by rw [HTK.out]; exact ownq
          have bel2 := ((bel.alloc hsz _).alloc (by simp; omega) _).grown grq (by simp; omega) (fun g hg => (hown.lt g hg).1)
          have HO := Lib.hid own2
          clear ownq grq hown own2 bel x1 x2
          go_wp2_with fail
          go_roundw
          case rel => exact ⟨k + 1, by omega, by go_num, HO.out, bel2⟩
          case measure => simp [intOf]; omega
        · obtain rfl : m = k := by omega
          rw [List.take_of_length_le (by have := HL2.out; omega)] at hown
          obtain ⟨A4, k4, rfl, q1, q2, q3⟩ := own_form hown
          have R4 := Lib.hid (show InTurns wr A4 m k4 D2 from ⟨TRow.of_own HL2.out hown, q1, q2, q3⟩)
          have R2 := Lib.hid (HT.out.below bel)
          have R3 := Lib.hid (show InTurns wr (some ⟨b, off, none⟩) K c D1 from ⟨by have := (HT.out.1.below bel).take Kn; rwa [HD1.out] at this, by omega, HT.out.2.2.1, fun h => by cases h⟩)
          have BB := HB2.out.trans (bel.mono HB2.out.size)
          have qa := alloc_cells
          have qf := alloc_frozens
          obtain ⟨w9, rfl⟩ : ∃ z : World, z = wr := ⟨_, rfl⟩
          have HBB := Lib.hid BB
          clear hown q3 bel BB hcA
          go_wp2_with fail
          refine (H2.out _ c _ R2.out).mono ?_
          rintro e w3 ⟨rfl, hb3⟩
          have z3 := hb3.size
          have c3 := Below.cells hb3
          have f3 := Below.frozens hb3
          try simp only [World.size_alloc, World.size_setCell, World.size_drew] at z3 c3 f3
          go_wp2_with fail
          refine (H3.out _ c _ (R3.out.below (by repeat (first | (with_reducible exact Below.refl _ _) | ((with_reducible refine Below.alloc ?_ ?_ _); rotate_left; (next => ((try dsimp only); (try simp only [World.size_alloc, World.size_setCell, World.size_drew]); omega))) | ((with_reducible refine Below.setCell ?_ ?_ _); rotate_left; (next => ((try dsimp only); (try simp only [World.size_alloc, World.size_setCell, World.size_drew]); omega))) | (with_reducible refine Below.drew ?_) | ((with_reducible refine Below.trans ?_ (Below.mono hb3 ?_)); rotate_left; (next => ((try dsimp only); (try simp only [World.size_alloc, World.size_setCell, World.size_drew]); omega))))))).mono ?_
          rintro e w4 ⟨rfl, hb4⟩
          have z4 := hb4.size
          have c4 := Below.cells hb4
          have f4 := Below.frozens hb4
          try simp only [World.size_alloc, World.size_setCell, World.size_drew] at z4 c4 f4
          go_wp2_with fail
          refine (H4.out A4 k4 _ (R4.out.below (by repeat (first | (with_reducible exact Below.refl _ _) | ((with_reducible refine Below.alloc ?_ ?_ _); rotate_left; (next => ((try dsimp only); (try simp only [World.size_alloc, World.size_setCell, World.size_drew]); omega))) | ((with_reducible refine Below.setCell ?_ ?_ _); rotate_left; (next => ((try dsimp only); (try simp only [World.size_alloc, World.size_setCell, World.size_drew]); omega))) | (with_reducible refine Below.drew ?_) | ((with_reducible refine Below.trans ?_ (Below.mono hb4 ?_)); rotate_left; (next => ((try dsimp only); (try simp only [World.size_alloc, World.size_setCell, World.size_drew]); omega))) | ((with_reducible refine Below.trans ?_ (Below.mono hb3 ?_)); rotate_left; (next => ((try dsimp only); (try simp only [World.size_alloc, World.size_setCell, World.size_drew]); omega))))))).mono ?_
          rintro e w5 ⟨rfl, hb5⟩
          have z5 := hb5.size
          have c5 := Below.cells hb5
          have f5 := Below.frozens hb5
          try simp only [World.size_alloc, World.size_setCell, World.size_drew] at z5 c5 f5
          go_wp2_with fail
          go_ret
          exact ⟨rfl, HBB.out.trans (Below.mono (B := w9.heap.size) (by repeat (first | (with_reducible exact Below.refl _ _) | ((with_reducible refine Below.alloc ?_ ?_ _); rotate_left; (next => ((try dsimp only); (try simp only [World.size_alloc, World.size_setCell, World.size_drew]); omega))) | ((with_reducible refine Below.setCell ?_ ?_ _); rotate_left; (next => ((try dsimp only); (try simp only [World.size_alloc, World.size_setCell, World.size_drew]); omega))) | (with_reducible refine Below.drew ?_) | ((with_reducible refine Below.trans ?_ (Below.mono hb5 ?_)); rotate_left; (next => ((try dsimp only); (try simp only [World.size_alloc, World.size_setCell, World.size_drew]); omega))) | ((with_reducible refine Below.trans ?_ (Below.mono hb4 ?_)); rotate_left; (next => ((try dsimp only); (try simp only [World.size_alloc, World.size_setCell, World.size_drew]); omega))) | ((with_reducible refine Below.trans ?_ (Below.mono hb3 ?_)); rotate_left; (next => ((try dsimp only); (try simp only [World.size_alloc, World.size_setCell, World.size_drew]); omega))))) HBB.out.size)⟩
    · have hat := ha2 hKn
      have hK1 : ¬ (K : Int) < (n : Int) := by omega
      have hKe : K = n := by omega
      subst hKe
      have hm0 : m = 0 := by omega
      have HM0 := Lib.hid hm0
      have hZ0 : Z = 0 := by omega
      subst hat
      subst hZ0
      clear ha1 ha2 hm0
      go_enter Try.func8, Try.ntmps8
      go_wp2_with fail
      refine (H0.out).mono ?_
      rintro e w1 ⟨rfl, hb1⟩
      have z1 := hb1.size
      have c1 := Below.cells hb1
      have f1 := Below.frozens hb1
      try simp only [World.size_alloc, World.size_setCell, World.size_drew] at z1 c1 f1
      go_wp2_with fail
      refine (H1.out _ (HIn.out.below (by repeat (first | (with_reducible exact Below.refl _ _) | ((with_reducible refine Below.alloc ?_ ?_ _); rotate_left; (next => ((try dsimp only); (try simp only [World.size_alloc, World.size_setCell, World.size_drew]); omega))) | ((with_reducible refine Below.setCell ?_ ?_ _); rotate_left; (next => ((try dsimp only); (try simp only [World.size_alloc, World.size_setCell, World.size_drew]); omega))) | (with_reducible refine Below.drew ?_) | ((with_reducible refine Below.trans ?_ (Below.mono hb1 ?_)); rotate_left; (next => ((try dsimp only); (try simp only [World.size_alloc, World.size_setCell, World.size_drew]); omega))))))).mono ?_
      rintro e w2 ⟨A0, c, rfl, hin2, hb2⟩
      obtain ⟨b, off, rfl, ltA, hcc⟩ := hin2.1.2 hn0
      have hnc := hin2.2.1
      have hcm := hin2.2.2.1
      unfold maxLen at hcm
      have HT := Lib.hid hin2
      have HCC := Lib.hid hcc
      have bel2 : Below w.heap.size w w2 := (by repeat (first | (with_reducible exact Below.refl _ _) | ((with_reducible refine Below.alloc ?_ ?_ _); rotate_left; (next => ((try dsimp only); (try simp only [World.size_alloc, World.size_setCell, World.size_drew]); omega))) | ((with_reducible refine Below.setCell ?_ ?_ _); rotate_left; (next => ((try dsimp only); (try simp only [World.size_alloc, World.size_setCell, World.size_drew]); omega))) | (with_reducible refine Below.drew ?_) | ((with_reducible refine Below.trans ?_ (Below.mono hb2 ?_)); rotate_left; (next => ((try dsimp only); (try simp only [World.size_alloc, World.size_setCell, World.size_drew]); omega))) | ((with_reducible refine Below.trans ?_ (Below.mono hb1 ?_)); rotate_left; (next => ((try dsimp only); (try simp only [World.size_alloc, World.size_setCell, World.size_drew]); omega)))))
      have HB2 := Lib.hid bel2
      clear hin2 hcc bel2 hb2 qa qf c1 f1
      rcases (by omega : K = c ∨ ¬ c = K) with rfl | hcK
      all_goals
        go_wp2_with fail
        refine (within_any q 50 P _ (by omega) (by omega) HP.out).mono ?_
        rintro e w' ⟨rfl, rfl⟩
        go_wp2_with fail
        refine (within_any p (HI + 1) J _ (by omega) (by omega) HJ.out).mono ?_
        rintro e w' ⟨rfl, rfl⟩
        go_wp2_with fail
        go_loopw [12, 62] (fun v i wr => ∃ k : Nat, k ≤ m ∧ i = .int .i64 k ∧ wr.ownsRow w2.heap.size 47 2 v k (tvs 0 (List.take k D2)) ∧ Below w2.heap.size w2 wr) (fun _ i _ => m - (intOf i).toNat)
        case atStart => exact ⟨0, Nat.zero_le _, rfl, World.ownsRow_nil _ _ _ _, Below.refl _ _⟩
        case round =>
          obtain ⟨k, hk, rfl, hown, bel⟩ := hrel
          have hsz := bel.size
          by_cases hlt : k < m
          · exact absurd hlt (by have := HM0.out; omega)
          · obtain rfl : m = k := by omega
            rw [List.take_of_length_le (by have := HL2.out; omega)] at hown
            obtain ⟨A4, k4, rfl, q1, q2, q3⟩ := own_form hown
            have R4 := Lib.hid (show InTurns wr A4 m k4 D2 from ⟨TRow.of_own HL2.out hown, q1, q2, q3⟩)
            have R2 := Lib.hid (HT.out.below bel)
            have R3 := Lib.hid (show InTurns wr (some ⟨b, off, none⟩) K _ D1 from ⟨by have := (HT.out.1.below bel).take Kn; rwa [HD1.out] at this, HT.out.2.1, HT.out.2.2.1, fun h => by cases h⟩)
            have BB := HB2.out.trans (bel.mono HB2.out.size)
            have qa := alloc_cells
            have qf := alloc_frozens
            obtain ⟨w9, rfl⟩ : ∃ z : World, z = wr := ⟨_, rfl⟩
            have HBB := Lib.hid BB
            clear hown q3 bel BB
            go_wp2_with fail
            refine (H2.out _ _ _ R2.out).mono ?_
            rintro e w3 ⟨rfl, hb3⟩
            have z3 := hb3.size
            have c3 := Below.cells hb3
            have f3 := Below.frozens hb3
            try simp only [World.size_alloc, World.size_setCell, World.size_drew] at z3 c3 f3
            go_wp2_with fail
            refine (H3.out _ _ _ (R3.out.below (by repeat (first | (with_reducible exact Below.refl _ _) | ((with_reducible refine Below.alloc ?_ ?_ _); rotate_left; (next => ((try dsimp only); (try simp only [World.size_alloc, World.size_setCell, World.size_drew]); omega))) | ((with_reducible refine Below.setCell ?_ ?_ _); rotate_left; (next => ((try dsimp only); (try simp only [World.size_alloc, World.size_setCell, World.size_drew]); omega))) | (with_reducible refine Below.drew ?_) | ((with_reducible refine Below.trans ?_ (Below.mono hb3 ?_)); rotate_left; (next => ((try dsimp only); (try simp only [World.size_alloc, World.size_setCell, World.size_drew]); omega))))))).mono ?_
            rintro e w4 ⟨rfl, hb4⟩
            have z4 := hb4.size
            have c4 := Below.cells hb4
            have f4 := Below.frozens hb4
            try simp only [World.size_alloc, World.size_setCell, World.size_drew] at z4 c4 f4
            go_wp2_with fail
            refine (H4.out A4 k4 _ (R4.out.below (by repeat (first | (with_reducible exact Below.refl _ _) | ((with_reducible refine Below.alloc ?_ ?_ _); rotate_left; (next => ((try dsimp only); (try simp only [World.size_alloc, World.size_setCell, World.size_drew]); omega))) | ((with_reducible refine Below.setCell ?_ ?_ _); rotate_left; (next => ((try dsimp only); (try simp only [World.size_alloc, World.size_setCell, World.size_drew]); omega))) | (with_reducible refine Below.drew ?_) | ((with_reducible refine Below.trans ?_ (Below.mono hb4 ?_)); rotate_left; (next => ((try dsimp only); (try simp only [World.size_alloc, World.size_setCell, World.size_drew]); omega))) | ((with_reducible refine Below.trans ?_ (Below.mono hb3 ?_)); rotate_left; (next => ((try dsimp only); (try simp only [World.size_alloc, World.size_setCell, World.size_drew]); omega))))))).mono ?_
            rintro e w5 ⟨rfl, hb5⟩
            have z5 := hb5.size
            have c5 := Below.cells hb5
            have f5 := Below.frozens hb5
            try simp only [World.size_alloc, World.size_setCell, World.size_drew] at z5 c5 f5
            go_wp2_with fail
            go_ret
            exact ⟨rfl, HBB.out.trans (Below.mono (B := w9.heap.size) (by repeat (first | (with_reducible exact Below.refl _ _) | ((with_reducible refine Below.alloc ?_ ?_ _); rotate_left; (next => ((try dsimp only); (try simp only [World.size_alloc, World.size_setCell, World.size_drew]); omega))) | ((with_reducible refine Below.setCell ?_ ?_ _); rotate_left; (next => ((try dsimp only); (try simp only [World.size_alloc, World.size_setCell, World.size_drew]); omega))) | (with_reducible refine Below.drew ?_) | ((with_reducible refine Below.trans ?_ (Below.mono hb5 ?_)); rotate_left; (next => ((try dsimp only); (try simp only [World.size_alloc, World.size_setCell, World.size_drew]); omega))) | ((with_reducible refine Below.trans ?_ (Below.mono hb4 ?_)); rotate_left; (next => ((try dsimp only); (try simp only [World.size_alloc, World.size_setCell, World.size_drew]); omega))) | ((with_reducible refine Below.trans ?_ (Below.mono hb3 ?_)); rotate_left; (next => ((try dsimp only); (try simp only [World.size_alloc, World.size_setCell, World.size_drew]); omega))))) HBB.out.size)⟩
end Go.Proofs.Ytamncanlbopehaa

import Derived.Test.YtpomdnglknbanaaTj
import Derived.Test.YtpomdnglknbanaaLs
import Derived.Deep.DeepCutAuto
set_option linter.unusedSimpArgs false
set_option linter.unusedVariables false
namespace Go.Proofs.Ytpomdnglknbanaa
open Go Go.RowKit
def aloC (E : Int) (_ : Nat) : Cfg := ⟨nA, E, 2, 1⟩
/-- A town of one, that ticked up to n. -/
structure AloS (E : Int) (n : Int) (S : TSt) : Prop where
  n1 : S.n = 1
  dead : S.dead = fun _ => false
  tn : TN (S.nd 0)
  every : (S.nd 0).every = E
  now : (S.nd 0).now = n
  peers : (S.nd 0).peers = []
  subs : (S.nd 0).subs = []
  way : (S.way.length : Int) = n / E
theorem aloS_start {E : Int} (hE : 1 ≤ E ∧ E ≤ 51) : AloS E 0 (stN (aloC E) 1 1 0) := by
  have hC : ∀ j, j < 1 → CfgOK (aloC E j) := fun j _ => ⟨nA_ok, by show 1 ≤ E ∧ E ≤ _; omega, by show 1 ≤ (2 : Int) ∧ (2 : Int) ≤ 64; omega, by show 1 ≤ (1 : Int) ∧ (1 : Int) ≤ _; omega⟩
  refine ⟨rfl, rfl, ?_, ?_, ?_, ?_, ?_, ?_⟩
  · rw [stN_nd _ (by omega)]; exact wpS_tn (by omega) hC (by omega) (by omega)
  all_goals first | rfl | (show ((0 : Nat) : Int) = 0 / E; simp)
theorem aloS_tick {E n g : Int} {S : TSt} (h : AloS E n S) (hg : 1 ≤ g ∧ g ≤ 30) (hn : 0 ≤ n ∧ n ≤ 900) : TickOK S g ∧ S.way.length + sumM S g S.n ≤ 1000 ∧ twN S g S.n = [] ∧ AloS E (n + g) (twS S g S.n) := by
  obtain ⟨h1, h2, h3, h4, h5, h6, h7, h8⟩ := h
  have he := h3.ok.every
  rw [h4] at he
  have hs := seq_le (n := n) (E := E) (by omega) he.1
  have hs2 := seq_le (n := n + g) (E := E) (by omega) he.1
  have hq : n / E ≤ (n + g) / E := Int.ediv_le_ediv (by omega) (by omega)
  have hd : S.dead 0 = false := by rw [h2]
  have hl : (txN S g 0).length = ((n + g) / E - n / E).toNat := by
    unfold txN txT
    rw [hd]
    show (sentB _ _ _ _).length = _
    rw [sentB_len]
    unfold mT
    rw [h4, h5]
  have hm : sumM S g S.n = ((n + g) / E - n / E).toNat := by
    unfold sumM
    rw [h1, show List.range 1 = [0] from rfl]
    simp [hl]
  have hnd : (twS S g 1).nd 0 = (tickF (S.nd 0) g).1 := by
    unfold twS tkN
    simp [hd]
  refine ⟨⟨by omega, by omega, fun j hj => ?_, fun j hj _ => ?_, by omega⟩, by rw [hm]; omega, ?_, ?_⟩
  · obtain rfl : j = 0 := by omega
    exact h3
  · obtain rfl : j = 0 := by omega
    have := seq_le (n := g) (E := E) (by omega) he.1
    exact ⟨by omega, by rw [h4]; omega⟩
  · unfold twN
    rw [h1, show List.range 1 = [0] from rfl]
    simp [noN, hd, tickF, toldN, tickS, h7]
  · have hw : ((twS S g 1).way.length : Int) = (n + g) / E := by
      rw [sumM_way, ← h1, hm]; omega
    rw [h1]
    have ht : TN ((twS S g 1).nd 0) := by
      rw [hnd]
      exact (h3.tick hg.1 (by omega)).tell
    refine ⟨rfl.trans h1, h2, ht, ?_, ?_, ?_, ?_, hw⟩ <;> rw [hnd]
    · exact h4
    · show (S.nd 0).now + g = _; rw [h5]
    · exact h6
    · show toldS (tickS (S.nd 0) g) = []
      unfold toldS
      show ((S.nd 0).subs).map _ = []
      rw [h7]; rfl
theorem aloC_row (E : Int) : cfgV (aloC E) 1 = [.string ⟨#[97]⟩, .int .i64 0, .int .i64 E, .int .i64 2, .int .i64 1] := rfl
theorem tnew1_ok (E : Int) (w : World) (hE : 1 ≤ E ∧ E ≤ 50) :
    Calls Try.prog 55 #[.slice (some ⟨w.heap.size, 0, none⟩) 1 1] (w.alloc (.cells #[.string ⟨#[97]⟩, .int .i64 0, .int .i64 E, .int .i64 2, .int .i64 1] 29))
      fun e w' => ∃ t f, e = .returned (.tuple #[.pointer (some ⟨t, 0, none⟩), .int .i64 0]) ∧ TRep w' t (stN (aloC E) 1 1 0) f ∧ (∀ x, f x → w.heap.size ≤ x) ∧ Below w.heap.size w w' := by
  have hC : ∀ j, j < 1 → CfgOK (aloC E j) := fun j _ => ⟨nA_ok, by show 1 ≤ E ∧ E ≤ _; omega, by show 1 ≤ (2 : Int) ∧ (2 : Int) ≤ 64; omega, by show 1 ≤ (1 : Int) ∧ (1 : Int) ≤ _; omega⟩
  have own := lit_own (w := w) (base := w.heap.size) (n := 1) (size := 5) (T := 29) (xs := #[.string ⟨#[97]⟩, .int .i64 0, .int .i64 E, .int .i64 2, .int .i64 1]) rfl (Nat.le_refl _) (by unfold maxLen; omega)
  have own' : (w.alloc (.cells #[.string ⟨#[97]⟩, .int .i64 0, .int .i64 E, .int .i64 2, .int .i64 1] 29)).ownsRow w.heap.size 29 5 (.slice (some ⟨w.heap.size, 0, none⟩) 1 1) 1 (cfgV (aloC E) 1) := by rw [aloC_row]; exact own
  refine (tnew_ok 1 1 w.heap.size _ _ _ own' (by omega) hC (by omega)).mono ?_
  rintro e w' ⟨t, f, rfl, h, hf, hb⟩
  have ab : Below w.heap.size w (w.alloc (.cells #[.string ⟨#[97]⟩, .int .i64 0, .int .i64 E, .int .i64 2, .int .i64 1] 29)) := (Below.refl _ _).alloc (Nat.le_refl _) _
  exact ⟨t, f, rfl, h, fun x hx => Nat.le_trans ab.size (hf x hx), ab.trans (hb.mono ab.size)⟩
set_option maxRecDepth 100000 in
set_option maxHeartbeats 16000000 in
theorem townAlone_walk (e0 : Int) (a : Option Addr) (len cap : Nat) (l : List Int) (w : World) (_ : (Lit.int .i64 e0).wf = true) (hin : InRow w a len cap l) :
    Calls Try.prog 9 #[.int .i64 e0, .slice a len cap] w fun e w' => e = .returned (.bool true) ∧ Below w.heap.size w w' := by
  have hcp := hin.2.1
  have hmx := hin.2.2.1
  unfold maxLen at hmx
  obtain ⟨n, hn⟩ : ∃ n : Nat, min len 30 = n := ⟨_, rfl⟩
  have hmin : min (len : Int) 30 = (n : Int) := by omega
  have hnl : n ≤ len := by omega
  have nl' : (n : Int) ≤ len := by omega
  have nc' : (n : Int) ≤ cap := by omega
  have hn30 : n ≤ 30 := by omega
  have b1 := within_bd e0 (n := 50) (by omega)
  obtain ⟨E, hE⟩ : ∃ E, within e0 50 = E - 1 := ⟨within e0 50 + 1, by omega⟩
  have EB : 1 ≤ E ∧ E ≤ 50 := by omega
  have vE : IntKind.i64.wrap (1 + (E - 1)) = E := by rw [show 1 + (E - 1) = E by omega]; exact IntWalk.i64_in _ (by omega)
  obtain ⟨E', hE'⟩ : ∃ x, E - 1 = x := ⟨_, rfl⟩
  rw [hE'] at vE hE
  have HE := Lib.hid hE
  have E0 : ¬ E = 0 := by omega
  have HN := Lib.hid (fun w' => tnew1_ok E w' EB)
  have HS0 := Lib.hid (aloS_start (E := E) (by omega))
  have HB := Lib.hid (fun w' => tbegun2_ok w')
  have HIn := Lib.hid hin
  clear hin hn hE hE' b1
  go_enter Try.func9, Try.ntmps9
  go_wp2_with fail
  refine (HB.out w).mono ?_
  rintro e w1 ⟨rfl, hb1⟩
  have B1 := Lib.hid hb1
  have z1 := hb1.size
  clear hb1
  go_wp2_with fail
  refine (within_any e0 50 E' _ (by omega) (by omega) HE.out).mono ?_
  rintro e w' ⟨rfl, rfl⟩
  go_wp2_with fail
  refine (HN.out w1).mono ?_
  rintro e w2 ⟨t, f0, rfl, h2, hf2, hb2⟩
  have T2 := Lib.hid h2
  have F2 := Lib.hid (fun x hx => Nat.le_trans z1 (hf2 x hx))
  have B2 := Lib.hid (B1.out.trans (hb2.mono z1))
  clear h2 hf2 hb2
  go_wp2_with fail
  go_loopw [7, 38] (fun m i wr => ∃ (k : Nat) (M : Int) (S : TSt) (f : Nat → Prop), k ≤ n ∧ i = .int .i64 k ∧ m = .int .i64 M ∧ 0 ≤ M ∧ M ≤ 30 * k ∧ TRep wr t S f ∧ AloS E M S ∧ (∀ x, f x → w.heap.size ≤ x) ∧ Below w.heap.size w wr) (fun _ i _ => n - (intOf i).toNat)
  case atStart => exact ⟨0, 0, _, f0, Nat.zero_le _, rfl, rfl, by omega, by omega, T2.out, HS0.out, F2.out, B2.out⟩
  case round =>
    obtain ⟨k, M, S, f, hk, rfl, rfl, hm0, hm1, hrep, hok, hf, bel⟩ := hrel
    by_cases hlt : k < n
    · obtain ⟨b2, o2, rfl, hb2, hc2⟩ := HIn.out.1.at (show 0 < len by omega)
      have c0 := (bel.cell (p := ⟨b2, o2 + k, none⟩) hb2).trans (hc2 k (by omega))
      obtain ⟨x, hx⟩ : ∃ x, l.getD k 0 = x := ⟨_, rfl⟩
      rw [hx] at c0
      have d1 := within_bd x (n := 30) (by omega)
      obtain ⟨g', hg'⟩ : ∃ g', within x 30 = g' := ⟨_, rfl⟩
      rw [hg'] at d1
      obtain ⟨g, hg⟩ : ∃ g, 1 + g' = g := ⟨_, rfl⟩
      have gb : 1 ≤ g ∧ g ≤ 30 := by omega
      have vg : IntKind.i64.wrap (1 + g') = g := by rw [hg]; exact IntWalk.i64_in _ (by omega)
      have vm : IntKind.i64.wrap (M + g) = M + g := IntWalk.i64_in _ (by omega)
      have kw : IntKind.i64.wrap ((k : Int) + 1) = (k : Int) + 1 := IntWalk.i64_in _ (by omega)
      have kl : (k : Int) < n := by omega
      have HG := Lib.hid hg'
      obtain ⟨tk1, tk2, tk3, tk4⟩ := aloS_tick hok gb (show 0 ≤ M ∧ M ≤ 900 by omega)
      have HT := Lib.hid (fun w' (h : TRep w' t S f) => ttick_ok w' h tk1)
      rw [tk3] at HT
      have HL := Lib.hid tk2
      have HS := Lib.hid tk4
      have HR := Lib.hid hrep
      have HF := Lib.hid hf
      have HBe := Lib.hid bel
      have sz0 := bel.size
      clear hx hg hg' hc2 tk1 tk2 tk3 tk4 hok hrep hf bel
      go_wp2_with fail
      refine (within_any x 30 g' _ (by omega) (by omega) HG.out).mono ?_
      rintro e w' ⟨rfl, rfl⟩
      go_wp2_with fail
      refine (HT.out _ HR.out).mono ?_
      rintro e w4 (⟨h, _⟩ | ⟨_, A4, c4, f4, rfl, _, h4, hf4, k4⟩)
      · exact absurd h (by have := HL.out; omega)
      · have T4 := Lib.hid h4
        have B4 := Lib.hid (HBe.out.trans (k4.below sz0 HF.out))
        have F4 := Lib.hid (fun x hx => (hf4 x hx).elim (HF.out x) (fun h => Nat.le_trans sz0 h))
        clear h4 hf4 k4
        go_wp2_with fail
        go_roundw
        case rel => exact ⟨k + 1, M + g, _, f4, by omega, by go_num, rfl, by omega, by omega, T4.out, HS.out, F4.out, B4.out⟩
        case measure => simp [intOf]; omega
    · obtain rfl : k = n := by omega
      obtain ⟨D, hD⟩ : ∃ D, M / E = D := ⟨_, rfl⟩
      have tq : M.tdiv E = D := by rw [Int.tdiv_eq_ediv_of_nonneg (by omega), hD]
      have hs := seq_le (n := M) (E := E) (by omega) EB.1
      rw [hD] at hs
      have tqw : IntKind.i64.wrap D = D := IntWalk.i64_in _ (by omega)
      have hd : S.dead 0 = false := by rw [hok.dead]
      have hh : has (S.nd 0).peers nB = false := by rw [hok.peers]; rfl
      have h0 : 0 < S.n := by rw [hok.n1]; omega
      have hwl := hok.way
      rw [hD] at hwl
      have HLv := Lib.hid (fun w' (h : TRep w' t S f) => tlevel_ok (i := 0) w' nB h h0 hd hok.tn.ok 0 4 (lev_none hh) (by rw [hh]; rfl))
      have HJn := Lib.hid (fun w' (h : TRep w' t S f) => tjoin_none (i := 0) w' nA 1 h h0 hd hok.tn.ok (by omega) (by rw [hok.peers]; rfl))
      have HWy := Lib.hid (fun w' (h : TRep w' t S f) => tway_ok w' h (by omega))
      obtain ⟨y, hy⟩ : ∃ y, S.way.length = y := ⟨_, rfl⟩
      rw [hy] at HWy hwl
      have HY := Lib.hid hwl
      have HR := Lib.hid hrep
      have HBe := Lib.hid bel
      have sz0 := bel.size
      clear hD hs hok hd hh h0 hwl hy hrep bel
      go_wp2_with fail
      refine (HLv.out _ HR.out).mono ?_
      rintro e w5 ⟨rfl, hb5⟩
      have R5 := Lib.hid (HR.out.below hb5)
      have B5 := Lib.hid (HBe.out.trans (hb5.mono sz0))
      clear hb5
      go_wp2_with fail
      refine (HJn.out _ R5.out).mono ?_
      rintro e w6 ⟨rfl, hb6⟩
      have R6 := Lib.hid (R5.out.below hb6)
      have B6 := Lib.hid (B5.out.trans (hb6.mono B5.out.size))
      clear hb6
      go_wp2_with fail
      have kk : (fun _ : World => True) w6.drew := trivial
      refine wp_region_M (fun _ => True) (fun _ => false) 16 rfl (by kernel_rfl) ?_
      (refine wpAnyM_take (i := 0) (v := ?_) rfl (by kernel_rfl) (by kernel_rfl) (by kernel_rfl) (by kernel_rfl) (fun _ _ _ h => h) (Or.inl ⟨by rfl, ?_⟩) kk ?_; (rotate_left; (intro w hSw; (try dsimp only at hSw); go_simp; try with_reducible rfl)); (try simp only [Act.put, List.setIfInBounds_toArray, List.set_cons_zero, List.set_cons_succ]))
      (refine wpAnyM_take (i := 1) (v := ?_) rfl (by kernel_rfl) (by kernel_rfl) (by kernel_rfl) (by kernel_rfl) (fun _ _ _ h => h) (Or.inl ⟨by rfl, ?_⟩) kk ?_; (rotate_left; (intro w hSw; (try dsimp only at hSw); go_simp; try with_reducible rfl)); (try simp only [Act.put, List.setIfInBounds_toArray, List.set_cons_zero, List.set_cons_succ]))
      (refine wpAnyM_take (i := 2) (v := ?_) rfl (by kernel_rfl) (by kernel_rfl) (by kernel_rfl) (by kernel_rfl) (fun _ _ _ h => h) (Or.inl ⟨by rfl, ?_⟩) kk ?_; (rotate_left; (intro w hSw; (try dsimp only at hSw); go_simp; try with_reducible rfl)); (try simp only [Act.put, List.setIfInBounds_toArray, List.set_cons_zero, List.set_cons_succ]))
      go_simp
      (refine wpAnyM_take (i := 3) (v := ?_) rfl (by kernel_rfl) (by kernel_rfl) (by kernel_rfl) (by kernel_rfl) (fun _ _ _ h => h) (Or.inl ⟨by rfl, ?_⟩) kk ?_; (rotate_left; (intro w hSw; (try dsimp only at hSw); go_simp; try with_reducible rfl)); (try simp only [Act.put, List.setIfInBounds_toArray, List.set_cons_zero, List.set_cons_succ]))
      (refine wpAnyM_take (i := 4) (v := ?_) rfl (by kernel_rfl) (by kernel_rfl) (by kernel_rfl) (by kernel_rfl) (fun _ _ _ h => h) (Or.inl ⟨by rfl, ?_⟩) kk ?_; (rotate_left; (intro w hSw; (try dsimp only at hSw); go_simp; try with_reducible rfl)); (try simp only [Act.put, List.setIfInBounds_toArray, List.set_cons_zero, List.set_cons_succ]))
      (refine wpAnyM_take (i := 5) (v := ?_) rfl (by kernel_rfl) (by kernel_rfl) (by kernel_rfl) (by kernel_rfl) (fun _ _ _ h => h) (Or.inl ⟨by rfl, ?_⟩) kk ?_; (rotate_left; (intro w hSw; (try dsimp only at hSw); go_simp; try with_reducible rfl)); (try simp only [Act.put, List.setIfInBounds_toArray, List.set_cons_zero, List.set_cons_succ]))
      (refine wpAnyM_take (i := 6) (v := ?_) rfl (by kernel_rfl) (by kernel_rfl) (by kernel_rfl) (by kernel_rfl) (fun _ _ _ h => h) (Or.inl ⟨by rfl, ?_⟩) kk ?_; (rotate_left; (intro w hSw; (try dsimp only at hSw); go_simp; try with_reducible rfl)); (try simp only [Act.put, List.setIfInBounds_toArray, List.set_cons_zero, List.set_cons_succ]))
      go_simp
      (refine wpAnyM_take (i := 7) (v := ?_) rfl (by kernel_rfl) (by kernel_rfl) (by kernel_rfl) (by kernel_rfl) (fun _ _ _ h => h) (Or.inl ⟨by rfl, ?_⟩) kk ?_; (rotate_left; (intro w hSw; (try dsimp only at hSw); go_simp; try with_reducible rfl)); (try simp only [Act.put, List.setIfInBounds_toArray, List.set_cons_zero, List.set_cons_succ]))
      (refine wpAnyM_take (i := 10) (v := ?_) rfl (by kernel_rfl) (by kernel_rfl) (by kernel_rfl) (by kernel_rfl) (fun _ _ _ h => h) (Or.inl ⟨by rfl, ?_⟩) kk ?_; (rotate_left; (intro w hSw; (try dsimp only at hSw); go_simp; try with_reducible rfl)); (try simp only [Act.put, List.setIfInBounds_toArray, List.set_cons_zero, List.set_cons_succ]))
      (refine wpAnyM_take (i := 11) (v := ?_) rfl (by kernel_rfl) (by kernel_rfl) (by kernel_rfl) (by kernel_rfl) (fun _ _ _ h => h) (Or.inl ⟨by rfl, ?_⟩) kk ?_; (rotate_left; (intro w hSw; (try dsimp only at hSw); go_simp; try with_reducible rfl)); (try simp only [Act.put, List.setIfInBounds_toArray, List.set_cons_zero, List.set_cons_succ]))
      (refine wpAnyM_take (i := 12) (v := ?_) rfl (by kernel_rfl) (by kernel_rfl) (by kernel_rfl) (by kernel_rfl) (fun _ _ _ h => h) (Or.inl ⟨by rfl, ?_⟩) kk ?_; (rotate_left; (intro w hSw; (try dsimp only at hSw); go_simp; try with_reducible rfl)); (try simp only [Act.put, List.setIfInBounds_toArray, List.set_cons_zero, List.set_cons_succ]))
      go_simp
      refine wpAnyM_one (i := 8) (by kernel_rfl) rfl (fun K hK => ?_)
      go_simp
      have hbd : Below w6.heap.size w6 w6.drew := Below.drew (Below.refl _ _)
      refine (HWy.out _ (R6.out.below hbd)).mono ?_
      rintro e w7 ⟨A7, c7, rfl, _, hb7⟩
      have B7 := Lib.hid (B6.out.trans ((hbd.trans hb7).mono B6.out.size))
      clear hb7 hbd
      go_simp
      refine hK _ _ (fun _ => trivial) ?_
      clear hK K
      have k2 : (fun _ : World => True) w7 := trivial
      (refine wpAnyM_take (i := 9) (v := ?_) rfl (by kernel_rfl) (by kernel_rfl) (by kernel_rfl) (by kernel_rfl) (fun _ _ _ h => h) (Or.inl ⟨by rfl, ?_⟩) k2 ?_; (rotate_left; (intro w hSw; (try dsimp only at hSw); go_simp; try with_reducible rfl)); (try simp only [Act.put, List.setIfInBounds_toArray, List.set_cons_zero, List.set_cons_succ]))
      (refine wpAnyM_take (i := 13) (v := ?_) rfl (by kernel_rfl) (by kernel_rfl) (by kernel_rfl) (by kernel_rfl) (fun _ _ _ h => h) (Or.inl ⟨by rfl, ?_⟩) k2 ?_; (rotate_left; (intro w hSw; (try dsimp only at hSw); go_simp; try with_reducible rfl)); (try simp only [Act.put, List.setIfInBounds_toArray, List.set_cons_zero, List.set_cons_succ]))
      (refine wpAnyM_take (i := 14) (v := ?_) rfl (by kernel_rfl) (by kernel_rfl) (by kernel_rfl) (by kernel_rfl) (fun _ _ _ h => h) (Or.inl ⟨by rfl, ?_⟩) k2 ?_; (rotate_left; (intro w hSw; (try dsimp only at hSw); go_simp; try with_reducible rfl)); (try simp only [Act.put, List.setIfInBounds_toArray, List.set_cons_zero, List.set_cons_succ]))
      (refine wpAnyM_take (i := 15) (v := ?_) rfl (by kernel_rfl) (by kernel_rfl) (by kernel_rfl) (by kernel_rfl) (fun _ _ _ h => h) (Or.inl ⟨by rfl, ?_⟩) k2 ?_; (rotate_left; (intro w hSw; (try dsimp only at hSw); go_simp; try with_reducible rfl)); (try simp only [Act.put, List.setIfInBounds_toArray, List.set_cons_zero, List.set_cons_succ]))
      refine wpAnyM_done (by kernel_rfl) ?_ _
      go_wp2_with fail
      go_ret
      refine ⟨?_, B7.out⟩
      have hy7 := HY.out
      simp [hy7]
end Go.Proofs.Ytpomdnglknbanaa

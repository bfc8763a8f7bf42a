import Derived.Test.YtlaeibpanipefaaRc
import Derived.Test.YtlaeibpanipefaaAr
import Derived.Test.YtlaeibpanipefaaCl
import Derived.Test.YtlaeibpanipefaaFl
import Derived.Test.YtlaeibpanipefaaLranksorts
import Derived.Test.YtlaeibpanipefaaLrankpart
set_option linter.unusedSimpArgs false
set_option linter.unusedVariables false
namespace Go.Proofs.Ytlaeibpanipefaa
open Go.RowKit
theorem Row.set {w : World} {b off n : Nat} {l : List Int} (h : Row w (some ⟨b, off, none⟩) n l) {i : Nat} (hi : i < n) (y : Int) : Row (w.setCell ⟨b, off + i, none⟩ (.int .i64 y)) (some ⟨b, off, none⟩) n (l.set i y) := by
  have hl := h.1
  refine ⟨by simp [hl], fun hn => ?_⟩
  obtain ⟨b', off', e, lt, hc⟩ := h.2 hn
  injection e with e
  injection e with e1 e2
  subst e1 e2
  refine ⟨b, off, rfl, by simpa using lt, fun k hk => ?_⟩
  by_cases c : k = i
  · subst c
    have hck := hc k hk
    have := World.cell?_setCell_same' w ⟨b, off + k, none⟩ (.int .i64 y) (by rw [hck]; rfl)
    rw [this]
    simp [List.getD, show k < l.length by omega]
  · have h1 := hc k hk
    have : (w.setCell ⟨b, off + i, none⟩ (.int .i64 y)).cell? ⟨b, off + k, none⟩ = w.cell? ⟨b, off + k, none⟩ := by
      simp [go_sem, show ¬ off + k = off + i by omega, show ¬ off + i = off + k by omega, show ¬ i = k by omega, c]
    rw [this, h1]
    simp [List.getD, List.getElem?_set, show ¬ i = k by omega]
theorem cnt_set (t y : Int) : ∀ (l : List Int) (i : Nat), l.getD i 0 ≤ y → cnt t l ≤ cnt t (l.set i y) := by
  intro l
  induction l with
  | nil => intro i _; simp
  | cons x l ih =>
    intro i h
    cases i with
    | zero => simp only [List.set_cons_zero, cnt, List.getD_cons_zero] at *; split <;> split <;> omega
    | succ i =>
      simp only [List.set_cons_succ, cnt, List.getD_cons_succ] at *
      have := ih i h
      omega
theorem Row.drop' {w : World} {b off n : Nat} {l : List Int} (h : Row w (some ⟨b, off, none⟩) n l) (t : Nat) : Row w (some ⟨b, off + t, none⟩) (n - t) (l.drop t) := by
  refine ⟨by rw [List.length_drop, h.1], fun hn => ?_⟩
  obtain ⟨b', off', e, lt, hc⟩ := h.2 (by omega)
  injection e with e
  injection e with e1 e2
  subst e1 e2
  refine ⟨b, off + t, rfl, lt, fun k hk => ?_⟩
  have := hc (t + k) (by omega)
  rw [← Nat.add_assoc] at this
  rw [this]
  simp [List.getD, List.getElem?_drop]
def OwnedRow (n : Nat) (l : List Int) (u : Value) (w : World) : Prop := ∃ A c, u = .slice A n c ∧ InRow w A n c l

set_option maxRecDepth 100000 in
set_option maxHeartbeats 16000000 in
theorem voteGrows_walk (a : Option Addr) (len cap : Nat) (l : List Int) (p q r t : Int) (w : World) (hin : InRow w a len cap l) (_ : (Lit.int .i64 p).wf = true) (_ : (Lit.int .i64 q).wf = true) (_ : (Lit.int .i64 r).wf = true) (_ : (Lit.int .i64 t).wf = true) :
    Calls Try.prog 8 #[.slice a len cap, .int .i64 p, .int .i64 q, .int .i64 r, .int .i64 t] w fun e w' =>
      e = .returned (.bool true) ∧ Below w.heap.size w w' := by
  obtain ⟨ys, hy⟩ : ∃ ys, lvls l = ys := ⟨_, rfl⟩
  obtain ⟨n, hn⟩ : ∃ n, ys.length = n := ⟨_, rfl⟩
  have hm : n ≤ 64 := by rw [← hn, ← hy, lvls_len]; omega
  have hb : Btw 0 127 ys := by rw [← hy]; exact lvls_btw l
  have hlv : ∀ w', InRow w' a len cap l → _ := fun w' h => levels_at a len cap l w' h ys n hy hn
  have hs0 := vlevel_ok _ 3 3 [5, 9, 1] 3 1 0 _ (Row.lit w 3 [5, 9, 1] 3 rfl) (by omega) (by decide) (by omega) (by omega) (by omega) (by rw [srt_591]; rfl)
  simp only [List.map_cons, List.map_nil] at hs0
  have HLv := Lib.hid hlv
  have HS0 := Lib.hid hs0
  have HIn := Lib.hid hin
  have qa := alloc_cells
  have qf := alloc_frozens
  by_cases h0 : n < 2
  · have h0' : (n : Int) < 2 := by omega
    clear hlv hs0 hin hn hy hb h0
    go_enter Try.func8, Try.ntmps8
    go_wp2_with fail
    refine (HS0.out).mono ?_
    rintro e w1 ⟨rfl, hb1⟩
    have z1 := hb1.size
    have c1 := Below.cells hb1
    have f1 := Below.frozens hb1
    try simp only [World.size_alloc, World.size_setCell, World.size_drew] at z1 c1 f1
    go_wp2_with fail
    refine (HLv.out _ (HIn.out.below (by repeat (first | (with_reducible exact Below.refl _ _) | ((with_reducible refine Below.alloc ?_ ?_ _); rotate_left; (next => ((try dsimp only); (try simp only [World.size_alloc, World.size_setCell, World.size_drew]); omega))) | ((with_reducible refine Below.setCell ?_ ?_ _); rotate_left; (next => ((try dsimp only); (try simp only [World.size_alloc, World.size_setCell, World.size_drew]); omega))) | (with_reducible refine Below.drew ?_) | ((with_reducible refine Below.trans ?_ (Below.mono hb1 ?_)); rotate_left; (next => ((try dsimp only); (try simp only [World.size_alloc, World.size_setCell, World.size_drew]); omega))))))).mono ?_
    rintro e w2 ⟨A2, cap2, rfl, hrA2, hb2⟩
    have RA2 := Lib.hid hrA2.1
    have EA2 := Lib.hid hrA2.1.each
    have IA2 := Lib.hid hrA2
    have capA2 := hrA2.2.1
    clear hrA2
    have z2 := hb2.size
    have c2 := Below.cells hb2
    have f2 := Below.frozens hb2
    try simp only [World.size_alloc, World.size_setCell, World.size_drew] at z2 c2 f2
    go_wp2_with fail
    go_ret
    exact ⟨rfl, (by repeat (first | (with_reducible exact Below.refl _ _) | ((with_reducible refine Below.alloc ?_ ?_ _); rotate_left; (next => ((try dsimp only); (try simp only [World.size_alloc, World.size_setCell, World.size_drew]); omega))) | ((with_reducible refine Below.setCell ?_ ?_ _); rotate_left; (next => ((try dsimp only); (try simp only [World.size_alloc, World.size_setCell, World.size_drew]); omega))) | (with_reducible refine Below.drew ?_) | ((with_reducible refine Below.trans ?_ (Below.mono hb2 ?_)); rotate_left; (next => ((try dsimp only); (try simp only [World.size_alloc, World.size_setCell, World.size_drew]); omega))) | ((with_reducible refine Below.trans ?_ (Below.mono hb1 ?_)); rotate_left; (next => ((try dsimp only); (try simp only [World.size_alloc, World.size_setCell, World.size_drew]); omega)))))⟩
  · have h0' : ¬ (n : Int) < 2 := by omega
    have b1 := within_bd p (n := (n : Int) - 1) (by omega)
    obtain ⟨P, e_P⟩ : ∃ z_, within p ((n : Int) - 1) = z_ := ⟨_, rfl⟩
    rw [e_P] at b1
    have HP := Lib.hid e_P
    clear e_P
    have b2 := within_bd q (n := n) (by omega)
    obtain ⟨I0, e_I0⟩ : ∃ z_, within q n = z_ := ⟨_, rfl⟩
    rw [e_I0] at b2
    have HI0 := Lib.hid e_I0
    clear e_I0
    obtain ⟨I, rfl⟩ := Int.eq_ofNat_of_zero_le b2.1
    have b3 := within_bd r (n := 128) (by omega)
    obtain ⟨R, e_R⟩ : ∃ z_, within r 128 = z_ := ⟨_, rfl⟩
    rw [e_R] at b3
    have HR := Lib.hid e_R
    clear e_R
    have b4 := within_bd t (n := n) (by omega)
    obtain ⟨T0, e_T0⟩ : ∃ z_, within t n = z_ := ⟨_, rfl⟩
    rw [e_T0] at b4
    have HT0 := Lib.hid e_T0
    clear e_T0
    obtain ⟨T, rfl⟩ := Int.eq_ofNat_of_zero_le b4.1
    have hI : I < n := by omega
    have hT : T < n := by omega
    obtain ⟨y0, hy0⟩ : ∃ y, ys.getD I 0 = y := ⟨_, rfl⟩
    have yb := hb.get (k := I) (by omega)
    rw [hy0] at yb
    obtain ⟨Y, hY⟩ : ∃ Y, min 127 (y0 + R) = Y := ⟨_, rfl⟩
    have Yb : y0 ≤ Y ∧ Y ≤ 127 := by omega
    obtain ⟨ms, hms⟩ : ∃ ms, ys.set I Y = ms := ⟨_, rfl⟩
    have hmn : ms.length = n := by rw [← hms, List.length_set, hn]
    have hmb : Btw 0 127 ms := fun x hx => by
      rw [← hms] at hx
      rcases List.mem_or_eq_of_mem_set hx with h | h
      · exact hb x h
      · omega
    obtain ⟨zs, hzs⟩ : ∃ zs, ys.drop T ++ ys.take T = zs := ⟨_, rfl⟩
    have hzp : zs.Perm ys := hzs ▸ rot_perm ys T
    have hzb : Btw 0 127 zs := fun x hx => hb x (hzp.mem_iff.1 hx)
    obtain ⟨K, hK⟩ := Int.eq_ofNat_of_zero_le (show 0 ≤ (n : Int) - (1 + P) - 1 by omega)
    obtain ⟨xa, hxa⟩ : ∃ x, (srt ys).getD (K + 1) 0 = x := ⟨_, rfl⟩
    obtain ⟨xb, hxb⟩ : ∃ x, (srt ys).getD K 0 = x := ⟨_, rfl⟩
    obtain ⟨xc, hxc⟩ : ∃ x, (srt ms).getD (K + 1) 0 = x := ⟨_, rfl⟩
    have hxd : (srt zs).getD (K + 1) 0 = xa := by rw [srt_same hzp, hxa]
    have hba : xb ≤ xa := by rw [← hxa, ← hxb]; exact kth_up ys (by omega) (by omega)
    have hac : xa ≤ xc := by
      rw [← hxc]
      refine (kth_iff ms (K + 1) (by omega) xa).2 ?_
      have h1 := (kth_iff ys (K + 1) (by omega) xa).1 (by omega)
      have h2 := cnt_set xa Y ys I (by rw [hy0]; exact Yb.1)
      rw [hms] at h2
      omega
    have hs1 : ∀ A c w', Row w' A n ys → _ := fun A c w' h => vlevel_ok A n c ys (1 + P) xa (K + 1) w' h hm hb (by omega) (by omega) (by omega) hxa
    have hs2 : ∀ A c w', Row w' A n ys → _ := fun A c w' h => vlevel_ok A n c ys (1 + P + 1) xb K w' h hm hb (by omega) (by omega) (by omega) hxb
    have hs3 : ∀ A c w', Row w' A n ms → _ := fun A c w' h => vlevel_ok A n c ms (1 + P) xc (K + 1) w' h hm hmb (by omega) (by omega) (by omega) hxc
    have hs4 : ∀ A c w', Row w' A n zs → _ := fun A c w' h => vlevel_ok A n c zs (1 + P) xa (K + 1) w' h hm hzb (by omega) (by omega) (by omega) hxd
    have hs5 : ∀ (b o c : Nat) (w' : World) (B : Nat), InRow w' (some ⟨b, o, none⟩) n c ys → w'.cell? ⟨B, 0, none⟩ = some (.slice (some ⟨b, o + T, none⟩) (n - T) (c - T)) → w'.cell? ⟨B, 1, none⟩ = some (.slice (some ⟨b, o, none⟩) T c) →
        Calls Try.prog 30 #[.slice (some ⟨B, 0, none⟩) 2 2] w' fun e w'' => ∃ u, e = .returned u ∧ OwnedRow n zs u w'' ∧ Below w'.heap.size w' w'' := fun b o c w' B h e1 e2 => by
      refine (concat_ok B _ _ _ _ _ _ (ys.drop T) (ys.take T) w' e1 e2 (World.block_lt_of_cell? w' _ e1) ⟨h.1.drop' T, by have := h.2.1; omega, by have := h.2.2.1; unfold maxLen at *; omega, fun h => by cases h⟩ ⟨h.1.take (by omega), by have := h.2.1; omega, h.2.2.1, fun h => by cases h⟩ (by omega) (by omega)).mono ?_
      rintro e w'' ⟨A2, c2, rfl, g1, _, g3⟩
      rw [show n - T + T = n by omega, hzs] at g1
      refine ⟨_, rfl, ⟨A2, c2, by rw [show n - T + T = n by omega], g1⟩, g3⟩
    have hs6 : ∀ A c w', Row w' A n ys → _ := fun A c w' h => clone_own A n c ys w' h (by omega)
    have HS1 := Lib.hid hs1
    have HS2 := Lib.hid hs2
    have HS3 := Lib.hid hs3
    have HS4 := Lib.hid hs4
    have HS5 := Lib.hid hs5
    have HS6 := Lib.hid hs6
    have HY0 := Lib.hid hy0
    have HY := Lib.hid hY
    have HMS := Lib.hid hms
    have e1 : IntKind.i64.wrap (y0 + R) = y0 + R := IntWalk.i64_in _ (by omega)
    have i0 : (0 : Int) ≤ I := by omega
    have i1 : (I : Int) < n := by omega
    have t0 : (0 : Int) ≤ T := by omega
    have t1 : (T : Int) ≤ n := by omega
    have t2 : (T : Int) < n := by omega
    clear hlv hs0 hs1 hs2 hs3 hs4 hs5 hs6 hin hn hy hb hxa hxb hxc hxd hzs hzp hzb hms hmn hmb hy0 hK
    go_enter Try.func8, Try.ntmps8
    go_wp2_with fail
    refine (HS0.out).mono ?_
    rintro e w1 ⟨rfl, hb1⟩
    have z1 := hb1.size
    have c1 := Below.cells hb1
    have f1 := Below.frozens hb1
    try simp only [World.size_alloc, World.size_setCell, World.size_drew] at z1 c1 f1
    go_wp2_with fail
    refine (HLv.out _ (HIn.out.below (by repeat (first | (with_reducible exact Below.refl _ _) | ((with_reducible refine Below.alloc ?_ ?_ _); rotate_left; (next => ((try dsimp only); (try simp only [World.size_alloc, World.size_setCell, World.size_drew]); omega))) | ((with_reducible refine Below.setCell ?_ ?_ _); rotate_left; (next => ((try dsimp only); (try simp only [World.size_alloc, World.size_setCell, World.size_drew]); omega))) | (with_reducible refine Below.drew ?_) | ((with_reducible refine Below.trans ?_ (Below.mono hb1 ?_)); rotate_left; (next => ((try dsimp only); (try simp only [World.size_alloc, World.size_setCell, World.size_drew]); omega))))))).mono ?_
    rintro e w2 ⟨A2, cap2, rfl, hrA2, hb2⟩
    have RA2 := Lib.hid hrA2.1
    have EA2 := Lib.hid hrA2.1.each
    have IA2 := Lib.hid hrA2
    have capA2 := hrA2.2.1
    clear hrA2
    have z2 := hb2.size
    have c2 := Below.cells hb2
    have f2 := Below.frozens hb2
    try simp only [World.size_alloc, World.size_setCell, World.size_drew] at z2 c2 f2
    go_wp2_with fail
    obtain ⟨b2, o2, hA2, _⟩ := RA2.out.at (show 0 < n by omega)
    subst hA2
    refine (within_any p ((n : Int) - 1) P _ (by omega) (by omega) HP.out).mono ?_
    rintro e w' ⟨rfl, rfl⟩
    go_wp2_with fail
    refine (within_any q n I _ (by omega) (by omega) HI0.out).mono ?_
    rintro e w' ⟨rfl, rfl⟩
    go_wp2_with fail
    refine (HS6.out _ _ _ RA2.out).mono ?_
    rintro e w3 ⟨v, rfl, own3, hb3⟩
    obtain ⟨g, cap3, rfl, _, hlt3⟩ := own3.form (by omega)
    have hg := (own3.lt g rfl).1
    have hgl := (own3.lt g rfl).2
    have R3 := Lib.hid (Row.of_own own3)
    have z3 := hb3.size
    have c3 := Below.cells hb3
    have f3 := Below.frozens hb3
    have hc3 : w3.cell? ⟨g, I, none⟩ = some (.int .i64 y0) := by
      obtain ⟨b', off', e, _, hc⟩ := R3.out.each I hI
      injection e with e
      injection e with e1 e2
      subst e1 e2
      rw [Nat.zero_add, HY0.out] at hc
      exact hc
    have hfr : w3.frozen? ⟨g, I, none⟩ = false := by
      rcases own3.2 with ⟨h, _⟩ | ⟨g', c', cur, h, _, h', _⟩
      · cases h
      · injection h with h
        injection h with h
        injection h with h
        subst h
        simp [World.frozen?, h']
    clear own3
    have hch : hcell w3 g I = some (.int .i64 y0) := hc3
    have hfh : hfroz w3 g I = false := hfr
    go_wp2_with fail
    refine wp_region_quiet_tail 11 (Ext _) (by kernel_rfl) (by kernel_rfl) (Ext.drawn _) ?_
    simp only [List.take_succ_cons, List.take_zero, List.drop_succ_cons, List.drop_zero]
    repeat (first | go_big_quiet_skip | go_big_quiet_step (fail) | (refine BigFrame.wpQuiet_want rfl (fun K hK => ?_); apply Exists.intro; refine ⟨fun w2 h2 => ?_, ?_⟩; (next => (have g1 := Below.cells h2.below; have g2 := Below.frozens h2.below; (try simp only [World.size_alloc, World.size_setCell] at g1 g2); first | (go_simp; (go_at_call 17; with_reducible exact h2.calls (same_below (within_any r 128 R _ (by omega) (by omega) HR.out)))) | (simp [go_sem, ↓IntWalk.iteOmega, *]; done) | (simp [go_sem, ↓IntWalk.iteOmega, *]; rfl)))); (go_simp; refine hK _ ?_; clear hK K))
    refine wpQuiet_nil ?_
    intro w4 h4
    have hb4 := h4.below
    clear h4
    have z4 := hb4.size
    have c4 := Below.cells hb4
    have f4 := Below.frozens hb4
    try simp only [World.size_alloc, World.size_setCell, World.size_drew] at z4 c4 f4
    go_wp2_with fail
    have Rms := Lib.hid (show Row (w4.setCell ⟨g, I, none⟩ (.int .i64 Y)) (some ⟨g, 0, none⟩) n ms from by
      have h := (R3.out.below hb4).set hI Y
      rw [HMS.out, Nat.zero_add] at h
      exact h)
    have hb5 : Below w2.heap.size w2 (w4.setCell ⟨g, I, none⟩ (.int .i64 Y)) := by
      exact (hb3.trans (hb4.mono z3)).setCell hg _
    generalize w4.setCell ⟨g, I, none⟩ (.int .i64 Y) = w5 at hb5 Rms
    clear hb4 c4 f4 z4 hch hfh hc3 hfr hlt3 c3 f3 R3 hb3 e1 HY HY0
    have z5 := hb5.size
    refine (within_any t n T _ (by omega) (by omega) HT0.out).mono ?_
    rintro e w' ⟨rfl, rfl⟩
    go_wp2_with fail
    refine (HS1.out _ _ _ (RA2.out.below hb5)).mono ?_
    rintro e w6 ⟨rfl, hb6⟩
    have z6 := hb6.size
    have c6 := Below.cells hb6
    have f6 := Below.frozens hb6
    try simp only [World.size_alloc, World.size_setCell, World.size_drew] at z6 c6 f6
    go_wp2_with fail
    refine (HS2.out _ _ _ (RA2.out.below (by repeat (first | (with_reducible exact Below.refl _ _) | ((with_reducible refine Below.alloc ?_ ?_ _); rotate_left; (next => ((try dsimp only); (try simp only [World.size_alloc, World.size_setCell, World.size_drew]); omega))) | ((with_reducible refine Below.setCell ?_ ?_ _); rotate_left; (next => ((try dsimp only); (try simp only [World.size_alloc, World.size_setCell, World.size_drew]); omega))) | (with_reducible refine Below.drew ?_) | ((with_reducible refine Below.trans ?_ (Below.mono hb5 ?_)); rotate_left; (next => ((try dsimp only); (try simp only [World.size_alloc, World.size_setCell, World.size_drew]); omega))) | ((with_reducible refine Below.trans ?_ (Below.mono hb6 ?_)); rotate_left; (next => ((try dsimp only); (try simp only [World.size_alloc, World.size_setCell, World.size_drew]); omega))))))).mono ?_
    rintro e w7 ⟨rfl, hb7⟩
    have z7 := hb7.size
    have c7 := Below.cells hb7
    have f7 := Below.frozens hb7
    try simp only [World.size_alloc, World.size_setCell, World.size_drew] at z7 c7 f7
    go_wp2_with fail
    refine (HS3.out _ _ _ (Rms.out.below (by repeat (first | (with_reducible exact Below.refl _ _) | ((with_reducible refine Below.alloc ?_ ?_ _); rotate_left; (next => ((try dsimp only); (try simp only [World.size_alloc, World.size_setCell, World.size_drew]); omega))) | ((with_reducible refine Below.setCell ?_ ?_ _); rotate_left; (next => ((try dsimp only); (try simp only [World.size_alloc, World.size_setCell, World.size_drew]); omega))) | (with_reducible refine Below.drew ?_) | ((with_reducible refine Below.trans ?_ (Below.mono hb6 ?_)); rotate_left; (next => ((try dsimp only); (try simp only [World.size_alloc, World.size_setCell, World.size_drew]); omega))) | ((with_reducible refine Below.trans ?_ (Below.mono hb7 ?_)); rotate_left; (next => ((try dsimp only); (try simp only [World.size_alloc, World.size_setCell, World.size_drew]); omega))))))).mono ?_
    rintro e w8 ⟨rfl, hb8⟩
    have z8 := hb8.size
    have c8 := Below.cells hb8
    have f8 := Below.frozens hb8
    try simp only [World.size_alloc, World.size_setCell, World.size_drew] at z8 c8 f8
    go_wp2_with fail
    have hb9 : Below w2.heap.size w2 w8 := (by repeat (first | (with_reducible exact Below.refl _ _) | ((with_reducible refine Below.alloc ?_ ?_ _); rotate_left; (next => ((try dsimp only); (try simp only [World.size_alloc, World.size_setCell, World.size_drew]); omega))) | ((with_reducible refine Below.setCell ?_ ?_ _); rotate_left; (next => ((try dsimp only); (try simp only [World.size_alloc, World.size_setCell, World.size_drew]); omega))) | (with_reducible refine Below.drew ?_) | ((with_reducible refine Below.trans ?_ (Below.mono hb5 ?_)); rotate_left; (next => ((try dsimp only); (try simp only [World.size_alloc, World.size_setCell, World.size_drew]); omega))) | ((with_reducible refine Below.trans ?_ (Below.mono hb6 ?_)); rotate_left; (next => ((try dsimp only); (try simp only [World.size_alloc, World.size_setCell, World.size_drew]); omega))) | ((with_reducible refine Below.trans ?_ (Below.mono hb7 ?_)); rotate_left; (next => ((try dsimp only); (try simp only [World.size_alloc, World.size_setCell, World.size_drew]); omega))) | ((with_reducible refine Below.trans ?_ (Below.mono hb8 ?_)); rotate_left; (next => ((try dsimp only); (try simp only [World.size_alloc, World.size_setCell, World.size_drew]); omega)))))
    have I9 := Lib.hid (IA2.out.below hb9)
    have z9 := hb9.size
    clear c6 f6 c7 f7 c8 f8 hb6 hb7 hb8 c1 f1 c2 f2
    refine wp_region_flow false (fun k => ([[], [], [], [], [], [], [6], [6, 7], [], [7]] : List (List Nat)).getD k []) (by kernel_rfl) (by kernel_rfl) ?_
    repeat (first | (refine flow_skip (fun _ => rfl) ?_; (try simp only [Act.put, List.setIfInBounds_toArray, List.set_cons_zero, List.set_cons_succ])) | (refine flow_mild (fun _ => rfl) (fun K hK => ?_); apply Exists.intro; refine ⟨fun B w2 h2 => ?_, ?_, ?_, ?_⟩; (next => (have h2' := Below.undrew h2.below; have g1 := Below.cells h2'; have g2 := Below.frozens h2'; (try simp only [World.size_alloc, World.size_setCell] at g1 g2); (try (obtain ⟨ql6, qc6, qf6, qh6, qz6⟩ := StF.cellsB h2 6 rfl rfl; (try simp only [World.size_alloc, World.size_setCell, World.size_drew] at ql6))); (try (have hbw := h2'; try (obtain ⟨A7, c7, hA7, hR7, _⟩ := StF.ownedB h2 7 rfl rfl))); clear h2 h2'; unfold mildAt; first | (go_simp; simp only [mildUpon, true_and]; (try rw [hA7]); with_reducible exact HS4.out _ _ _ hR7) | (simp [mildUpon, go_sem, ↓IntWalk.iteOmega, *]; done) | (simp [mildUpon, go_sem, ↓IntWalk.iteOmega, *]; (try go_ints); rfl))); (next => (first | (exact fun _ _ _ => rfl) | (intro B1 B2 hB; (try dsimp only); simp [hB]; done))); (next => (first | (intro k' hk'; cases hk'; done) | (intro k' hk'; simp at hk'; (try subst hk'); (try simp [Ress.put]); done) | (intro k' hk'; simp at hk'; (try rcases hk' with rfl | rfl); all_goals (simp [Ress.put])))); (go_simp; refine hK _ ?_; clear hK K)) | (refine flow_ptr (fun _ => rfl) (fun K hK => ?_); apply Exists.intro; apply Exists.intro; refine ⟨fun B w2 h2 => ?_, ?_, ?_, ?_⟩; (next => (have h2' := Below.undrew h2.below; have g1 := Below.cells h2'; have g2 := Below.frozens h2'; (try simp only [World.size_alloc, World.size_setCell] at g1 g2); (try (obtain ⟨ql6, qc6, qf6, qh6, qz6⟩ := StF.cellsB h2 6 rfl rfl; (try simp only [World.size_alloc, World.size_setCell, World.size_drew] at ql6))); (try (have hbw := h2'; try (obtain ⟨A7, c7, hA7, hR7, _⟩ := StF.ownedB h2 7 rfl rfl))); clear h2 h2'; simp [go_sem, ptrOf, ↓IntWalk.iteOmega, *]; first | exact ⟨rfl, rfl⟩ | rfl)); (next => simp); (next => first | rfl | simp [Ress.put]); ((try simp only [Ress.put_def]); go_simp; refine hK _ _ ?_; clear hK K)) | (refine flow_slice (fun _ => rfl) (fun K hK => ?_); apply Exists.intro; apply Exists.intro; apply Exists.intro; refine ⟨fun B w2 h2 => ?_, ?_, ?_, ?_⟩; (next => (have h2' := Below.undrew h2.below; have g1 := Below.cells h2'; have g2 := Below.frozens h2'; (try simp only [World.size_alloc, World.size_setCell] at g1 g2); (try (obtain ⟨ql6, qc6, qf6, qh6, qz6⟩ := StF.cellsB h2 6 rfl rfl; (try simp only [World.size_alloc, World.size_setCell, World.size_drew] at ql6))); (try (have hbw := h2'; try (obtain ⟨A7, c7, hA7, hR7, _⟩ := StF.ownedB h2 7 rfl rfl))); clear h2 h2'; simp [go_sem, ↓IntWalk.iteOmega, *]; first | exact ⟨rfl, rfl⟩ | rfl)); (next => simp); (next => first | rfl | simp [Ress.put]); ((try simp only [Ress.put_def]); go_simp; refine hK _ _ ?_; clear hK K)) | ((with_reducible refine flow_own (k := _) ((OwnedRow n zs)) (fun _ => rfl) rfl ?_ ?_ ?_ (fun B w2 h2 => ?_) (fun K hK => ?_)); (next => (simp; done)); (next => first | rfl | (simp [Ress.put]; done)); (next => (intro u1 x1 x2 hu hbw; obtain ⟨A1, c1, rfl, hin⟩ := hu; exact ⟨A1, c1, rfl, hin.below hbw⟩)); (next => (have h2' := Below.undrew h2.below; have g1 := Below.cells h2'; have g2 := Below.frozens h2'; (try simp only [World.size_alloc, World.size_setCell] at g1 g2); (try (obtain ⟨ql6, qc6, qf6, qh6, qz6⟩ := StF.cellsB h2 6 rfl rfl; (try simp only [World.size_alloc, World.size_setCell, World.size_drew] at ql6))); (try (have hbw := h2'; try (obtain ⟨A7, c7, hA7, hR7, _⟩ := StF.ownedB h2 7 rfl rfl))); clear h2 h2'; unfold ownAt; go_simp; simp only [ownUpon, true_and]; (refine HS5.out _ _ _ _ _ (I9.out.below hbw) ?_ ?_; (next => (rw [qc6 0]; simp)); (next => (rw [qc6 1]; simp))))); ((try simp only [Ress.put_def]); go_simp; refine hK _ _ ?_; clear hK K)))
    refine flow_nil ?_
    intro B w10 h10
    dsimp only
    have hb10 := Below.undrew h10.below
    obtain ⟨lo10_6, up10_6, e10_6, fz10_6⟩ := StA.cells h10 6 rfl
    try dsimp only at e10_6
    generalize (B 6).1 = b10_6 at *
    have eh10_6 := e10_6
    have fh10_6 := fz10_6
    change ∀ o, hcell _ _ o = _ at eh10_6
    change ∀ o, hfroz _ _ o = _ at fh10_6
    obtain ⟨A10_7, C10_7, vv10, ri10⟩ := StA.owned h10 7 rfl
    rw [vv10]
    clear h10
    clear vv10
    clear B
    try simp only [World.size_alloc, World.size_setCell, World.size_drew] at lo10_6
    have z10 := hb10.size
    have c10 := Below.cells hb10
    have f10 := Below.frozens hb10
    try simp only [World.size_alloc, World.size_setCell, World.size_drew] at z10 c10 f10
    go_wp2_with fail
    go_ret
    refine ⟨by simp [hba, hac], ?_⟩
    have hbz : Below w.heap.size w w2 := (by repeat (first | (with_reducible exact Below.refl _ _) | ((with_reducible refine Below.alloc ?_ ?_ _); rotate_left; (next => ((try dsimp only); (try simp only [World.size_alloc, World.size_setCell, World.size_drew]); omega))) | ((with_reducible refine Below.setCell ?_ ?_ _); rotate_left; (next => ((try dsimp only); (try simp only [World.size_alloc, World.size_setCell, World.size_drew]); omega))) | (with_reducible refine Below.drew ?_) | ((with_reducible refine Below.trans ?_ (Below.mono hb2 ?_)); rotate_left; (next => ((try dsimp only); (try simp only [World.size_alloc, World.size_setCell, World.size_drew]); omega))) | ((with_reducible refine Below.trans ?_ (Below.mono hb1 ?_)); rotate_left; (next => ((try dsimp only); (try simp only [World.size_alloc, World.size_setCell, World.size_drew]); omega)))))
    exact hbz.trans ((hb9.trans (hb10.mono z9)).mono hbz.size)
end Go.Proofs.Ytlaeibpanipefaa
